/- The small machine, read from the front: slices that are laid out, calls, masks, answers. The small machine, read from the front: regions whose order is drawn. The small machine, read from the front: slices that are lent, cut, cleared. The small machine, read from the front: function values that hold boxes. -/
import Derived.Test.YtiimibimkpimbaaVmE
set_option linter.unusedVariables false
set_option linter.unusedSimpArgs false
namespace Go.Proofs.Ytiimibimkpimbaa
theorem zA.{u} {α:Type u} {a:α} {l:List α}:(a::l).length = l.length + 1:=rfl
theorem zB.{u} {α:Type u}:([]:List α).length = 0:=rfl
theorem zC:(!true) = false:=rfl
theorem zD:(!false) = true:=rfl
theorem zE.{u} {α:Type u} {n:Nat} {a:α}:List.replicate (n + 1) a = a::List.replicate n a:=rfl
theorem zF.{u} {α:Type u} {a:α}:List.replicate 0 a = []:=rfl
theorem zG.{u,v} {α:Type u} {β:Type v} (a:α) (f:α→Option β):(some a).bind f = f a:=rfl
theorem zH.{u,v} {α:Type u} {β:Type v} (a:α) (f:α→β):(some a).map f = some (f a):=rfl
theorem zI.{u,v} {α:Type u} {β:Type v} (f:α→β):(none:Option α).map f = none:=rfl
theorem zJ.{u,v,w} {α:Type u} {β:Type v} {γ:Sort w} (f:α→γ) (g:β→γ) (x:α):Sum.elim f g (Sum.inl x) = f x:=rfl
theorem zK.{u,v,w} {α:Type u} {β:Type v} {γ:Sort w} (f:α→γ) (g:β→γ) (x:β):Sum.elim f g (Sum.inr x) = g x:=rfl
theorem zL.{u,v,w} {α:Type u} {β:Type v} {γ:Type w} (x:Option α) (f:α→Option β) (g:β→Option γ):(x.bind f).bind g = x.bind fun y=>(f y).bind g:=Option.bind_assoc x f g
theorem zM.{u} {α:Type u} [BEq α] [ReflBEq α] (a:α):(a == a) = true:=beq_self_eq_true a
theorem zN:(¬False) = True:=not_false_eq_true
namespace Vm
open Go.RowKit
section
variable {β:Type} {T:vT} {d:Nat} {fr:List (Nat × V)} {bl:List (Nat × Option aL)} {k:V→Option β} {kw:V→List (Nat × Option aL)→Option β}
def C8 (bl:List (Nat × Option aL)):List V→(List D→List (Nat × Option aL)→Option β)→Option β
 | [],k=>k [] []
 | v :: cs,k=>(mN (lk bl none) v).bind fun x=>C8 bl cs fun ds f=>k (x :: ds) (D0 (lk bl none) v ++ f)
theorem TM (cs:List V) (k:List D→List (Nat × Option aL)→Option β):C8 bl cs k = (bB (mN (lk bl none)) cs).bind fun ds=>k ds (cs.flatMap (D0 (lk bl none))):=by
 induction cs generalizing k with
 | nil=>rfl
 | cons v cs ih =>
  simp only [C8,bB,ih,List.flatMap_cons]
  cases mN (lk bl none) v with
  | none=>rfl
  | some x=>cases bB (mN (lk bl none)) cs <;> rfl
def d1K (v:V) (bl:List (Nat × Option aL)) (k:D→List (Nat × Option aL)→Option β):Option β:=(mN (lk bl none) v).bind fun x=>k x (D0 (lk bl none) v)
def d1B (id ver:Nat) (b:Option aL) (k:D→List (Nat × Option aL)→Option β):Option β:=match b with
 | some (.rows v _ _ rows)=>if ver = v then k (.sl rows) [(id,some (.froz v rows))] else none
 | some (.froz v rows)=>if ver = v then k (.sl rows) [] else none
 | _=>none
theorem aHq (id ver:Nat) (k:D→List (Nat × Option aL)→Option β):d1K (.own id ver) bl k = dK bl id fun b=>d1B id ver b k:=by
 unfold d1K dK d1B
 simp only [mN,D0,sZ,EN]
 generalize lk bl none id = b
 cases b with
 | none=>rfl
 | some b=>cases b with
  | rows v e s rows=>simp only; by_cases h:ver = v <;> simp [h]
  | froz v rows=>simp only; by_cases h:ver = v <;> simp [h]
  | _=>rfl
theorem aDw (id v e s:Nat) (rows:List (List D)) (k:D→List (Nat × Option aL)→Option β):d1B id v (some (.rows v e s rows)) k = k (.sl rows) [(id,some (.froz v rows))]:=if_pos rfl
theorem aDS (id v:Nat) (rows:List (List D)) (k:D→List (Nat × Option aL)→Option β):d1B id v (some (.froz v rows)) k = k (.sl rows) []:=if_pos rfl
def rL (bl:List (Nat × Option aL)):List V→(List D→List (Nat × Option aL)→Option β)→Option β
 | [],k=>k [] []
 | v :: cs,k=>(sZ (lk bl none) v).bind fun x=>rL bl cs fun ds f=>k (x :: ds) (EN (lk bl none) v ++ f)
theorem aBf (cs:List V) (k:List D→List (Nat × Option aL)→Option β):rL bl cs k = (bB (sZ (lk bl none)) cs).bind fun ds=>k ds (cs.flatMap (EN (lk bl none))):=by
 induction cs generalizing k with
 | nil=>rfl
 | cons v cs ih =>
  simp only [rL,bB,ih,List.flatMap_cons]
  cases sZ (lk bl none) v with
  | none=>rfl
  | some x=>cases bB (sZ (lk bl none)) cs <;> rfl
theorem U8 (k:List D→List (Nat × Option aL)→Option β):rL bl [] k = k [] []:=rfl
theorem aDx (x:D) (cs:List V) (k:List D→List (Nat × Option aL)→Option β):rL bl (.d x :: cs) k = rL bl cs fun ds f=>k (x :: ds) f:=rfl
theorem WD (id ver:Nat) (cs:List V) (k:List D→List (Nat × Option aL)→Option β):rL bl (.own id ver :: cs) k = d1K (.own id ver) bl fun x g=>rL bl cs fun ds f=>k (x :: ds) (g ++ f):=rfl
theorem NJ (ds:List D) (k:List D→List (Nat × Option aL)→Option β):rL bl (bM ds) k = k ds []:=by
 have:∀ (ds:List D) (k:List D→List (Nat × Option aL)→Option β),rL bl (bM ds) k = k ds []:=by
  intro ds
  induction ds with
  | nil=>intro k; rfl
  | cons x ds ih=>intro k; show rL bl (bM ds) _ = _; rw [ih]; rfl
 exact this ds k
def d1P (id off:Nat) (b:Option aL) (bl:List (Nat × Option aL)) (k:D→List (Nat × Option aL)→Option β):Option β:=match b with
 | some (.box cs)=>rL bl cs fun ds f=>k (.ptr ds off) ((id,some (.fbox ds)) :: f)
 | some (.fbox ds)=>k (.ptr ds off) []
 | _=>none
theorem aHV (id off:Nat) (k:D→List (Nat × Option aL)→Option β):d1K (.ptr id off) bl k = dK bl id fun b=>d1P id off b bl k:=by
 unfold d1K dK d1P
 simp only [mN,D0]
 cases lk bl none id with
 | none=>rfl
 | some b=>cases b with
  | box cs =>
   simp only [aBf]
   cases bB (sZ (lk bl none)) cs <;> rfl
  | _=>rfl
theorem aHR (id off:Nat) (c:V) (cs:List V) (k:D→List (Nat × Option aL)→Option β):d1P id off (some (.box (c :: cs))) bl k = rL bl (c :: cs) fun ds f=>k (.ptr ds off) ((id,some (.fbox ds)) :: f):=rfl
theorem WY (id off:Nat) (ds:List D) (k:D→List (Nat × Option aL)→Option β):d1P id off (some (.box (bM ds))) bl k = k (.ptr ds off) [(id,some (.fbox ds))]:=by
 show rL bl (bM ds) _ = _
 rw [NJ]
theorem aBw (k:List D→List (Nat × Option aL)→Option β):C8 bl [] k = k [] []:=rfl
theorem aGj (x:D) (cs:List V) (k:List D→List (Nat × Option aL)→Option β):C8 bl (.d x :: cs) k = C8 bl cs fun ds f=>k (x :: ds) f:=rfl
theorem F6 (ds:List D) (k:List D→List (Nat × Option aL)→Option β):C8 bl (bM ds) k = k ds []:=by
 have:∀ (ds:List D) (k:List D→List (Nat × Option aL)→Option β),C8 bl (bM ds) k = k ds []:=by
  intro ds
  induction ds with
  | nil=>intro k; rfl
  | cons x ds ih=>intro k; show C8 bl (bM ds) _ = _; rw [ih]; rfl
 exact this ds k
def yZ (v:V) (bl:List (Nat × Option aL)) (k:D→List (Nat × Option aL)→Option β):Option β:=(jS (lk bl none) v).bind fun x=>k x (sX (lk bl none) v)
theorem aJP (x:D) (k:D→List (Nat × Option aL)→Option β):yZ (.d x) bl k = k x []:=rfl
theorem aFy (k:D→List (Nat × Option aL)→Option β):yZ .nil bl k = k (.sl []) []:=rfl
theorem aEe (id ver:Nat) (k:D→List (Nat × Option aL)→Option β):yZ (.own id ver) bl k = d1K (.own id ver) bl k:=rfl
theorem RY (cs:List V) (k:D→List (Nat × Option aL)→Option β):yZ (.agg cs) bl k = C8 bl cs fun ds f=>k (.agg ds) f:=by
 rw [TM]
 show ((bB (mN (lk bl none)) cs).map D.agg).bind _ = _
 cases bB (mN (lk bl none)) cs <;> rfl
theorem aBM (ds:List D) (k:D→List (Nat × Option aL)→Option β):yZ (oJ ds) bl k = k (.agg ds) []:=by
 show yZ (.agg (bM ds)) bl k = _
 rw [RY,F6]
theorem aJg (x:D) (k:List D→List (Nat × Option aL)→Option β):P0 (.d x) bl k = k [x] []:=rfl
theorem UP (cs:List V) (k:List D→List (Nat × Option aL)→Option β):P0 (.agg cs) bl k = C8 bl cs k:=by
 rw [TM]
 show (match bB (mN (lk bl none)) cs with | some row=>k row (cs.flatMap (D0 (lk bl none))) | none=>none) = _
 cases bB (mN (lk bl none)) cs <;> rfl
theorem aBF (ds:List D) (k:List D→List (Nat × Option aL)→Option β):P0 (oJ ds) bl k = k ds []:=by
 show P0 (.agg (bM ds)) bl k = _
 rw [UP,F6]
def U2 (rs:List (List D)) (i:Nat) (row:List D) (k:List (List D)→Option β):Option β:=if i < rs.length then k (rs.set i row) else none
theorem aJW (r:List D) (rs:List (List D)) (row:List D) (k:List (List D)→Option β):U2 (r :: rs) 0 row k = k (row :: rs):=by simp [U2]
theorem aKt (r:List D) (rs:List (List D)) (i:Nat) (row:List D) (k:List (List D)→Option β):U2 (r :: rs) (i + 1) row k = U2 rs i row fun l=>k (r :: l):=by
 unfold U2
 simp only [List.length_cons,List.set_cons_succ]
 by_cases h:i < rs.length
 ·rw [if_pos h,if_pos (by omega)]
 ·rw [if_neg h,if_neg (by omega)]
def bsF (fr:List (Nat × V)) (bl:List (Nat × Option aL)) (size:Nat) (rs:List (List D)):List (Nat × dL)→List (Nat × Option aL)→(List (List D)→List (Nat × Option aL)→Option β)→Option β
 | [],wr,k=>k rs wr
 | (i,x) :: r,wr,k=>d9 fr x fun v=>P0 v bl fun row f=>tJ row size (U2 rs i row fun rs'=>bsF fr bl size rs' r (wr ++ f) k)
theorem aID (size:Nat) (rs:List (List D)) (wr:List (Nat × Option aL)) (k:List (List D)→List (Nat × Option aL)→Option β):bsF fr bl size rs [] wr k = k rs wr:=rfl
theorem aEk (size:Nat) (rs:List (List D)) (i:Nat) (x:dL) (r:List (Nat × dL)) (wr:List (Nat × Option aL)) (k:List (List D)→List (Nat × Option aL)→Option β):bsF fr bl size rs ((i,x) :: r) wr k = d9 fr x fun v=>P0 v bl fun row f=>tJ row size (U2 rs i row fun rs'=>bsF fr bl size rs' r (wr ++ f) k):=rfl
theorem aKk (size:Nat) (parts:List (Nat × dL)):∀ (rs:List (List D)) (wr:List (Nat × Option aL)) (k:List (List D)→List (Nat × Option aL)→Option β),bsF fr bl size rs parts wr k = (lQ (lk bl none) size rs (parts.map fun p=>(p.1,cV (lk fr .any) p.2))).bind fun rs'=>k rs' (wr ++ parts.flatMap fun p=>sX (lk bl none) (cV (lk fr .any) p.2)):=by
 induction parts with
 | nil=>intro rs wr k; simp [bsF,lQ]
 | cons p r ih =>
  intro rs wr k
  obtain ⟨i,x⟩:=p
  simp only [bsF,d9,P0,List.map_cons,lQ,List.flatMap_cons]
  cases bB (mN (lk bl none)) (cV (lk fr .any) x).cells with
  | none=>rfl
  | some row =>
   simp only [tJ,U2]
   by_cases h1:row.length = size
   ·by_cases h2:i < rs.length
    ·rw [if_pos h1,if_pos h2,if_pos ⟨h1,h2⟩,ih,List.append_assoc]
    ·rw [if_pos h1,if_neg h2,if_neg (fun q=>h2 q.2)]; rfl
   ·rw [if_neg h1,if_neg (fun q=>h1 q.1)]; rfl
theorem NC (e size n:Nat) (z:List D) (parts:List (Nat × dL)):uH T d (.buildSlice e size z n parts) fr bl k kw = dK bl d fun b=>jR b (bsF fr bl size (List.replicate n z) parts [] fun rows wr=>PQ e rows fun rows=>kw (.own d 0) ((d,some (.rows 0 e size rows)) :: wr)):=by
 rw [lF]
 unfold dK jR PQ
 simp only [eQ,aKk,List.nil_append]
 cases lk bl none d with
 | some b=>rfl
 | none =>
  simp only
  have e1:(parts.map fun x=>match x with | (i,x)=>(i,cV (lk fr .any) x)) = parts.map fun p=>(p.1,cV (lk fr .any) p.2):=rfl
  have e2:(parts.flatMap fun x=>match x with | (_,x)=>sX (lk bl none) (cV (lk fr .any) x)) = parts.flatMap fun p=>sX (lk bl none) (cV (lk fr .any) p.2):=rfl
  rw [e1,e2]
  cases lQ (lk bl none) size (List.replicate n z) (parts.map fun p=>(p.1,cV (lk fr .any) p.2)) <;> rfl
theorem N0 {α:Type} (e size bytes:Nat) (z:List D) (c:α→List D) (x:α) (hz:z = c x) (l cp:dL):uH T d (.makeSlice e size bytes z l cp) fr bl k kw = dK bl d fun b=>jR b (d9 fr l fun a=>d9 fr cp fun b=>match a,b with
   | .d (.int _ n),.d (.int _ m)=>if 0 ≤ n ∧ n ≤ m ∧ (bytes:Int) * m ≤ 281474976710656 ∧ m ≤ 9223372036854775807 then kw (.own d 0) [(d,some (.rows 0 e size (cM c (List.replicate n.toNat x))))] else none
   | _,_=>none):=by
 subst hz
 rw [lF]
 unfold dK jR d9
 simp only [eQ,P3]
 generalize cV (lk fr .any) l = a
 generalize cV (lk fr .any) cp = b
 cases lk bl none d with
 | some b=>rfl
 | none =>
  simp only
  split
  ·rename_i n _ m
   simp only
   by_cases h:0 ≤ n ∧ n ≤ m ∧ (bytes:Int) * m ≤ 281474976710656 ∧ m ≤ 9223372036854775807
   ·rw [if_pos h,if_pos h]; rfl
   ·rw [if_neg h,if_neg h]; rfl
  ·rename_i h
   split
   ·rename_i n _ m
    exact absurd rfl (h _ _ _ _ rfl)
   ·rfl
def I3 (fr:List (Nat × V)) (bl:List (Nat × Option aL)):List dL→(List D→List (Nat × Option aL)→Option β)→Option β
 | [],k=>k [] []
 | x :: l,k=>d9 fr x fun v=>yZ v bl fun y f=>I3 fr bl l fun ds g=>k (y :: ds) (f ++ g)
theorem aBm (k:List D→List (Nat × Option aL)→Option β):I3 fr bl [] k = k [] []:=rfl
theorem X5 (x:dL) (l:List dL) (k:List D→List (Nat × Option aL)→Option β):I3 fr bl (x :: l) k = d9 fr x fun v=>yZ v bl fun y f=>I3 fr bl l fun ds g=>k (y :: ds) (f ++ g):=rfl
theorem S2 (l:List dL) (k:List D→List (Nat × Option aL)→Option β):I3 fr bl l k = (bB (fun x=>jS (lk bl none) (cV (lk fr .any) x)) l).bind fun ds=>k ds (l.flatMap fun x=>sX (lk bl none) (cV (lk fr .any) x)):=by
 induction l generalizing k with
 | nil=>rfl
 | cons x l ih =>
  simp only [I3,d9,yZ,bB,ih,List.flatMap_cons]
  cases jS (lk bl none) (cV (lk fr .any) x) with
  | none=>rfl
  | some y=>cases bB (fun x=>jS (lk bl none) (cV (lk fr .any) x)) l <;> rfl
def fzK (fz:List (Nat × Option aL)) (v:V) (k:V→Option β) (kw:V→List (Nat × Option aL)→Option β):Option β:=match fz with
 | []=>k v
 | p :: w=>kw v (p :: w)
theorem aIy (v:V):fzK [] v k kw = k v:=rfl
theorem aKm (l:List (Nat × Option aL)) (v:V):fzK ([] ++ l) v k kw = fzK l v k kw:=rfl
theorem aJL (p:Nat × Option aL) (w l:List (Nat × Option aL)) (v:V):fzK ((p :: w) ++ l) v k kw = kw v ((p :: w) ++ l):=rfl
noncomputable def fT (T:vT) (d:Nat) (bl:List (Nat × Option aL)) (f:Nat) (ds:List D) (fz:List (Nat × Option aL)) (k:V→Option β) (kw:V→List (Nat × Option aL)→Option β):Option β:=match call T f ds with
 | none=>none
 | some r=>AS (oU d (lk bl none) fz r) k kw
theorem aEu (f:Nat) (args:List dL):uH T d (.call f args) fr bl k kw = I3 fr bl args fun ds fz=>fT T d bl f ds fz k kw:=by
 rw [lF,S2]
 simp only [eQ]
 cases bB (fun x=>jS (lk bl none) (cV (lk fr .any) x)) args with
 | none=>rfl
 | some ds =>
  simp only [Option.bind_some,fT]
  cases call T f ds <;> rfl
def D.calm:D→Bool
 | .own _ _ _=>false
 | _=>true
theorem YY {x:D} (h:x.calm = true):∀ y es rs,x ≠ .own y es rs:=fun y es rs e=>by rw [e] at h; cases h
theorem aBn {x:D} (h:FF x = true):x.calm = true:=by cases x <;> first | rfl | cases h
theorem cU {α:Type} {f:Nat} {ds:List D} {o:Option α} {enc:α→D} (h:call T f ds = o.map enc) (hf:∀ x,FF (enc x) = true) (fz:List (Nat × Option aL)):fT T d bl f ds fz k kw = o.bind fun x=>k (toV (enc x)):=by
 unfold fT
 rw [h]
 cases o with
 | none=>rfl
 | some x=>simp only [Option.map_some,Option.bind_some]; rw [BV (YY (aBn (hf x))),if_pos (hf x)]; rfl
theorem A8 {α:Type} {f:Nat} {ds:List D} {o:Option α} {enc:α→D} (h:call T f ds = o.map enc) (hf:∀ x,FF (enc x) = false) (hc:∀ x,(enc x).calm = true) (fz:List (Nat × Option aL)):fT T d bl f ds fz k kw = o.bind fun x=>fzK fz (toV (enc x)) k kw:=by
 unfold fT
 rw [h]
 cases o with
 | none=>rfl
 | some x=>simp only [Option.map_some,Option.bind_some]; rw [BV (YY (hc x)),if_neg (by rw [hf x]; decide)]; cases fz <;> rfl
def TX (bl:List (Nat × Option aL)):List (Nat × Option aL)→Option β→Option β
 | [],x=>x
 | (i,_) :: l,x=>dK bl i fun b=>jR b (TX bl l x)
theorem MA (bl:List (Nat × Option aL)) (x:Option β):∀ (l:List (Nat × Option aL)),TX bl l x = if GW (lk bl none) l = true then x else none
 | []=>rfl
 | (i,b) :: l=>by
  cases h:lk bl none i <;> simp [TX,GW,dK,jR,MA bl x l,h]
theorem sW {α:Type} {f:Nat} {ds:List D} {o:Option α} {y:α→D} {p:Nat × Nat} {es:List (Nat × Nat)} {r:α→List (List D)} {rs:α→List (List (List D))} (h:call T f ds = o.map fun x=>.own (y x) (p :: es) (r x :: rs x)) (fz:List (Nat × Option aL)) :
  fT T d bl f ds fz k kw = o.bind fun x=>TX bl (gU d 0 (p :: es) (r x :: rs x)) (kw (thaw d (y x)) (gU d 0 (p :: es) (r x :: rs x) ++ fz)):=by
 unfold fT
 rw [h]
 cases o with
 | none=>rfl
 | some x =>
  simp only [Option.map_some,Option.bind_some,oU,MA]
  split
  ·obtain ⟨e,s⟩:=p; rfl
  ·rfl
def KV (fr:List (Nat × V)) (bl:List (Nat × Option aL)):List dL→(List D→List (Nat × Option aL)→Option β)→Option β
 | [],k=>k [] []
 | x :: l,k=>d9 fr x fun v=>d1K v bl fun y f=>KV fr bl l fun ds g=>k (y :: ds) (f ++ g)
theorem aBv (k:List D→List (Nat × Option aL)→Option β):KV fr bl [] k = k [] []:=rfl
theorem V9 (x:dL) (l:List dL) (k:List D→List (Nat × Option aL)→Option β):KV fr bl (x :: l) k = d9 fr x fun v=>d1K v bl fun y f=>KV fr bl l fun ds g=>k (y :: ds) (f ++ g):=rfl
theorem aCv (l:List dL) (k:List D→List (Nat × Option aL)→Option β):KV fr bl l k = (bB (fun x=>mN (lk bl none) (cV (lk fr .any) x)) l).bind fun ds=>k ds (l.flatMap fun x=>D0 (lk bl none) (cV (lk fr .any) x)):=by
 induction l generalizing k with
 | nil=>rfl
 | cons x l ih =>
  simp only [KV,d9,d1K,bB,ih,List.flatMap_cons]
  cases mN (lk bl none) (cV (lk fr .any) x) with
  | none=>rfl
  | some y=>cases bB (fun x=>mN (lk bl none) (cV (lk fr .any) x)) l <;> rfl
theorem aCN (f:Nat) (caps:List dL):uH T d (.mkfn f caps) fr bl k kw = KV fr bl caps fun ds fz=>fzK fz (.d (.fn f ds)) k kw:=by
 rw [lF,aCv]
 simp only [eQ]
 cases bB (fun x=>mN (lk bl none) (cV (lk fr .any) x)) caps with
 | none=>rfl
 | some ds =>
  simp only [Option.bind_some]
  cases caps.flatMap fun x=>D0 (lk bl none) (cV (lk fr .any) x) <;> rfl
def IY (fr:List (Nat × V)) (bl:List (Nat × Option aL)) (caps:List D):List dL→(List D→List (Nat × Option aL)→Option β)→Option β
 | [],k=>k caps []
 | x :: l,k=>d9 fr x fun v=>yZ v bl fun y f=>IY fr bl caps l fun ds g=>k (y :: ds) (f ++ g)
theorem aB1 (caps:List D) (k:List D→List (Nat × Option aL)→Option β):IY fr bl caps [] k = k caps []:=rfl
theorem YF (caps:List D) (x:dL) (l:List dL) (k:List D→List (Nat × Option aL)→Option β):IY fr bl caps (x :: l) k = d9 fr x fun v=>yZ v bl fun y f=>IY fr bl caps l fun ds g=>k (y :: ds) (f ++ g):=rfl
theorem aFs (caps:List D) (l:List dL) (k:List D→List (Nat × Option aL)→Option β):IY fr bl caps l k = (bB (fun x=>jS (lk bl none) (cV (lk fr .any) x)) l).bind fun ds=>k (ds ++ caps) (l.flatMap fun x=>sX (lk bl none) (cV (lk fr .any) x)):=by
 induction l generalizing k with
 | nil=>rfl
 | cons x l ih =>
  simp only [IY,d9,yZ,bB,ih,List.flatMap_cons]
  cases jS (lk bl none) (cV (lk fr .any) x) with
  | none=>rfl
  | some y=>cases bB (fun x=>jS (lk bl none) (cV (lk fr .any) x)) l <;> rfl
noncomputable def VI (T:vT) (d:Nat) (v:V) (args:List dL) (fr:List (Nat × V)) (bl:List (Nat × Option aL)) (k:V→Option β) (kw:V→List (Nat × Option aL)→Option β):Option β:=match v with
 | .d (.fn f caps)=>IY fr bl caps args fun ds fz=>fT T d bl f ds fz k kw
 | _=>none
theorem aFH (f:Nat) (caps:List D) (args:List dL):VI T d (.d (.fn f caps)) args fr bl k kw = IY fr bl caps args fun ds fz=>fT T d bl f ds fz k kw:=rfl
theorem aBx (g:dL) (args:List dL):uH T d (.callv g args) fr bl k kw = d9 fr g fun v=>VI T d v args fr bl k kw:=by
 rw [lF]
 unfold d9
 simp only [eQ]
 generalize cV (lk fr .any) g = v
 cases v with
 | d x=>cases x with
  | fn f caps =>
   simp only [VI,aFs]
   cases bB (fun x=>jS (lk bl none) (cV (lk fr .any) x)) args with
   | none=>rfl
   | some ds =>
    simp only [Option.bind_some,fT]
    cases call T f (ds ++ caps) <;> rfl
  | _=>rfl
 | _=>rfl
def aJF (v:V) (i:Nat) (k:V→Option β):Option β:=match v with
 | .tup vs=>DJ vs i k
 | _=>none
theorem TE (x:dL) (i:Nat):uH T d (.extract x i) fr bl k kw = d9 fr x fun v=>aJF v i k:=by
 unfold uH d9
 simp only [eQ]
 generalize cV (lk fr .any) x = v
 cases v with
 | tup vs=>simp only [aJF,MP]; cases vs[i]? <;> rfl
 | _=>rfl
theorem aJe (vs:List V) (i:Nat):aJF (.tup vs) i k = DJ vs i k:=rfl
def I8 (m:zR) (fr:List (Nat × V)) (bl:List (Nat × Option aL)) (k:List (Nat × V)→List (Nat × Option aL)→Option β):Option β:=k (m.app ⟨fr,bl⟩).fr (m.app ⟨fr,bl⟩).bl
theorem aIx {k:Ex→St→Option β} (m:zR) (a:aT):eG T (.pre m a) ⟨fr,bl⟩ k = I8 m fr bl fun fr' bl'=>eG T a ⟨fr',bl'⟩ k:=by
 rw [aGI]; rfl
theorem aHF {k:Ex→St→Option β} (m:zR):T5 m k .normal ⟨fr,bl⟩ = I8 m fr bl fun fr' bl'=>k .normal ⟨fr',bl'⟩:=by
 rw [aGM]; rfl
def wJ (keep:List Nat) (bl:List (Nat × Option aL)) (v:V) (k:V→Option β):Option β:=k (E7 keep (lk bl none) v)
def L1 (keep:List Nat) (fr:List (Nat × V)) (bl:List (Nat × Option aL)):List Nat→(List (Nat × V)→Option β)→Option β
 | [],k=>k []
 | t :: r,k=>qN fr t fun v=>wJ keep bl v fun v'=>L1 keep fr bl r fun l=>k ((t,v') :: l)
theorem aE3 (keep:List Nat) (l:List Nat):∀ (k:List (Nat × V)→Option β),L1 keep fr bl l k = k (l.map fun t=>(t,E7 keep (lk bl none) (lk fr .any t))):=by
 induction l with
 | nil=>intro k; rfl
 | cons t l ih=>intro k; simp only [L1,qN,wJ,ih,List.map_cons]
def BJ (keep:List Nat) (bl:List (Nat × Option aL)) (b:Option aL) (k:Option aL→Option β):Option β:=k (b.bind (yE keep (lk bl none)))
def KZ (keep:List Nat) (bl:List (Nat × Option aL)):List Nat→(List (Nat × Option aL)→Option β)→Option β
 | [],k=>k []
 | i :: r,k=>dK bl i fun b=>BJ keep bl b fun b'=>KZ keep bl r fun l=>k ((i,b') :: l)
theorem aEm (keep:List Nat) (l:List Nat):∀ (k:List (Nat × Option aL)→Option β),KZ keep bl l k = k (l.map fun i=>(i,(lk bl none i).bind (yE keep (lk bl none)))):=by
 induction l with
 | nil=>intro k; rfl
 | cons t l ih=>intro k; simp only [KZ,dK,BJ,ih,List.map_cons]
theorem aAP (keep:List Nat) (k:List (Nat × V)→Option β):L1 keep fr bl [] k = k []:=rfl
theorem XF (keep:List Nat) (t:Nat) (r:List Nat) (k:List (Nat × V)→Option β):L1 keep fr bl (t :: r) k = qN fr t fun v=>wJ keep bl v fun v'=>L1 keep fr bl r fun l=>k ((t,v') :: l):=rfl
theorem aB7 (keep:List Nat) (k:List (Nat × Option aL)→Option β):KZ keep bl [] k = k []:=rfl
theorem YL (keep:List Nat) (i:Nat) (r:List Nat) (k:List (Nat × Option aL)→Option β):KZ keep bl (i :: r) k = dK bl i fun b=>BJ keep bl b fun b'=>KZ keep bl r fun l=>k ((i,b') :: l):=rfl
theorem aHP (live keep:List Nat) (k:List (Nat × V)→List (Nat × Option aL)→Option β):I8 ⟨live,keep,[],[],[],[]⟩ fr bl k = L1 keep fr bl live fun fr'=>KZ keep bl keep fun bl'=>k fr' bl':=by
 rw [aE3,aEm]; rfl
def lD (keep:List Nat) (i:Nat) (x y:Option β):Option β:=if keep.contains i = true then x else y
theorem NY (i:Nat) (r:List Nat) (x y:Option β):lD (i :: r) i x y = x:=by simp [lD]
theorem MQ (a i:Nat) (r:List Nat) (x y:Option β) (h:(i == a) = false):lD (a :: r) i x y = lD r i x y:=by
 unfold lD
 rw [List.contains_cons,h,Bool.false_or]
section
variable (keep:List Nat)
theorem aIr (x:D):wJ keep bl (.d x) k = k (.d x):=rfl
theorem aA2:wJ keep bl .nil k = k .nil:=rfl
def RE (keep:List Nat) (id off:Nat) (b:Option aL) (k:V→Option β):Option β:=match b with
 | some (.box _)=>lD keep id (k (.ptr id off)) (k .any)
 | some (.fbox ds)=>k (.d (.ptr ds off))
 | _=>k .any
theorem VY (id off:Nat) (cs:List V):RE keep id off (some (.box cs)) k = lD keep id (k (.ptr id off)) (k .any):=rfl
theorem SY (id off:Nat) (ds:List D):RE keep id off (some (.fbox ds)) k = k (.d (.ptr ds off)):=rfl
theorem Z1 (id off:Nat):wJ keep bl (.ptr id off) k = dK bl id fun b=>RE keep id off b k:=by
 unfold wJ dK RE
 simp only [E7,PG,s9]
 generalize lk bl none id = b
 cases b with
 | none=>rfl
 | some b=>cases b with
  | box cs=>simp only [lD]; split <;> rfl
  | _=>rfl
def L6 (id ver:Nat) (b:Option aL) (k:V→Option β):Option β:=match b with
 | some (.rows v _ _ _)=>if (ver == v) = true then lD keep id (k (.own id 0)) (k .any) else k .any
 | some (.froz v rows)=>if ver = v then k (.d (.sl rows)) else k .any
 | _=>k .any
theorem aCg (id ver:Nat):wJ keep bl (.own id ver) k = dK bl id fun b=>L6 keep id ver b k:=by
 unfold wJ dK L6 lD
 simp only [E7,PG,s9]
 generalize lk bl none id = b
 cases b with
 | none=>rfl
 | some b=>cases b with
  | rows v e s rows=>simp only; cases (ver == v) <;> cases keep.contains id <;> rfl
  | froz v rows=>simp only; split <;> rfl
  | _=>rfl
theorem UM (id v e s:Nat) (rows:List (List D)):L6 keep id v (some (.rows v e s rows)) k = lD keep id (k (.own id 0)) (k .any):=by simp [L6]
theorem SG (id v:Nat) (rows:List (List D)):L6 keep id v (some (.froz v rows)) k = k (.d (.sl rows)):=if_pos rfl
def xD (keep:List Nat) (bl:List (Nat × Option aL)):List V→(List V→Option β)→Option β
 | [],k=>k []
 | v :: cs,k=>k (s9 keep (lk bl none) v :: cs.map (s9 keep (lk bl none)))
theorem AW (cs:List V) (k:List V→Option β):xD keep bl cs k = k (cs.map (s9 keep (lk bl none))):=by cases cs <;> rfl
theorem XC (k:List V→Option β):xD keep bl [] k = k []:=rfl
theorem aDF (x:D) (cs:List V) (k:List V→Option β):xD keep bl (.d x :: cs) k = xD keep bl cs fun l=>k (.d x :: l):=by simp only [AW]; rfl
theorem aDN (cs:List V) (k:List V→Option β):xD keep bl (.nil :: cs) k = xD keep bl cs fun l=>k (.nil :: l):=by simp only [AW]; rfl
theorem XO (id ver:Nat) (cs:List V) (k:List V→Option β):xD keep bl (.own id ver :: cs) k = wJ keep bl (.own id ver) fun v=>xD keep bl cs fun l=>k (v :: l):=by simp only [AW]; rfl
theorem P8 (ds:List D) (b:Nat→Option aL):(bM ds).map (s9 keep b) = bM ds:=by
 induction ds with
 | nil=>rfl
 | cons x ds ih=>show s9 keep b (.d x) :: (bM ds).map (s9 keep b) = _; rw [ih]; rfl
theorem S6 (k:Option aL→Option β):BJ keep bl none k = k none:=rfl
theorem VN (c:V) (cs:List V) (k:Option aL→Option β):BJ keep bl (some (.box (c :: cs))) k = xD keep bl (c :: cs) fun l=>k (some (.box l)):=by rw [AW]; rfl
theorem NP (ds:List D) (k:Option aL→Option β):BJ keep bl (some (.box (bM ds))) k = k (some (.box (bM ds))):=by
 show k (some (.box ((bM ds).map (s9 keep (lk bl none))))) = _
 rw [P8]
theorem SZ (v e s:Nat) (rows:List (List D)) (k:Option aL→Option β):BJ keep bl (some (.rows v e s rows)) k = k (some (.rows 0 e s rows)):=rfl
end
def aLS (res:List nF):Ex→St→Option D
 | .normal,s=>match bB (rM s) res with
  | none=>none
  | some [v]=>jS s.blk v
  | some vs=>toD s.blk (.tup vs)
 | .ret,s=>match bB (rM s) res with
  | none=>none
  | some [v]=>jS s.blk v
  | some vs=>toD s.blk (.tup vs)
 | .exit _,_=>none
def FS (fr:List (Nat × V)) (bl:List (Nat × Option aL)):List nF→(List D→Option D)→Option D
 | [],k=>k []
 | .tmp t :: r,k=>qN fr t fun v=>yZ v bl fun x _=>FS fr bl r fun l=>k (x :: l)
 | .cell t size isAgg :: r,k=>qN fr t fun p=>xP size isAgg p bl fun v=>yZ v bl fun x _=>FS fr bl r fun l=>k (x :: l)
def I7:List D→Option D
 | [x]=>some x
 | l=>some (.tup l)
theorem L7 (size:Nat) (a:Bool) (p:V):xP size a p bl k = (GJ size a p (lk bl none)).bind fun r=>k r.1:=by
 have h:=UB (T:=fun _=>none) (d:=0) (fr:=[]) (bl:=bl) (k:=k) (kw:=fun v _=>k v) size a (.c p)
 have e:d9 [] (.c p) (fun v=>xP size a v bl k) = xP size a p bl k:=rfl
 rw [← e,← h,lF,C5]
 show AS (GJ size a p (lk bl none)) k (fun v _=>k v) = _
 cases GJ size a p (lk bl none) with
 | none=>rfl
 | some r=>obtain ⟨v,wr⟩:=r; cases wr <;> rfl
theorem FU (fr:List (Nat × V)) (bl:List (Nat × Option aL)):St.blk ⟨fr,bl⟩ = lk bl none:=rfl
theorem aIz (res:List nF):∀ (k:List D→Option D),FS fr bl res k = (bB (rM ⟨fr,bl⟩) res).bind fun vs=>(bB (jS (lk bl none)) vs).bind k:=by
 induction res with
 | nil=>intro k; rfl
 | cons r res ih =>
  intro k
  cases r with
  | tmp t =>
   simp only [FS,qN,yZ,ih,bB,rM,FK,FU]
   cases h1:bB (rM ⟨fr,bl⟩) res with
   | none =>
    simp only [Option.bind_none]
    cases jS (lk bl none) (lk fr .any t) <;> rfl
   | some vs =>
    simp only [Option.bind_some,bB]
    cases jS (lk bl none) (lk fr .any t) with
    | none=>rfl
    | some x=>cases bB (jS (lk bl none)) vs <;> rfl
  | cell t size isAgg =>
   simp only [FS,qN,L7,yZ,ih,bB,rM,C5,FK,FU]
   cases GJ size isAgg (lk fr .any t) (lk bl none) with
   | none=>rfl
   | some q =>
    obtain ⟨v,wr⟩:=q
    simp only [Option.bind_some]
    cases h1:bB (rM ⟨fr,bl⟩) res with
    | none =>
     simp only [Option.bind_none]
     cases jS (lk bl none) v <;> rfl
    | some vs =>
     simp only [Option.bind_some,bB]
     cases jS (lk bl none) v with
     | none=>rfl
     | some x=>cases bB (jS (lk bl none)) vs <;> rfl
theorem ZV (res:List nF):(match bB (rM ⟨fr,bl⟩) res with
  | none=>none
  | some [v]=>jS (lk bl none) v
  | some vs=>toD (lk bl none) (.tup vs)) = FS fr bl res I7:=by
 rw [aIz]
 cases bB (rM ⟨fr,bl⟩) res with
 | none=>rfl
 | some vs =>
  simp only [Option.bind_some]
  cases vs with
  | nil=>rfl
  | cons v vs =>
   cases vs with
   | nil =>
    simp only [bB]
    cases jS (lk bl none) v <;> rfl
   | cons w ws =>
    show (bB (jS (lk bl none)) (v :: w :: ws)).map D.tup = _
    simp only [bB]
    cases jS (lk bl none) v with
    | none=>rfl
    | some x=>cases jS (lk bl none) w with
     | none=>rfl
     | some y=>cases bB (jS (lk bl none)) ws <;> rfl
theorem aJG (res:List nF):aLS res .ret ⟨fr,bl⟩ = FS fr bl res I7:=ZV res
theorem aD7 (k:List D→Option D):FS fr bl [] k = k []:=rfl
theorem aFC (t:Nat) (r:List nF) (k:List D→Option D):FS fr bl (.tmp t :: r) k = qN fr t fun v=>yZ v bl fun x _=>FS fr bl r fun l=>k (x :: l):=rfl
theorem aAI (t size:Nat) (isAgg:Bool) (r:List nF) (k:List D→Option D):FS fr bl (.cell t size isAgg :: r) k = qN fr t fun p=>xP size isAgg p bl fun v=>yZ v bl fun x _=>FS fr bl r fun l=>k (x :: l):=rfl
theorem aFZ (x:D):I7 [x] = some x:=rfl
theorem aIt (x y:D) (l:List D):I7 (x :: y :: l) = some (.tup (x :: y :: l)):=rfl
theorem dZ {T:vT} {f np nt:Nat} {res:List nF} {body:aT} (hf:T f = some (.code ⟨np,nt,res,body,false,false⟩)) (ds:List D) (hl:ds.length = np) (hlt:iO 0 ds = none):Vm.call T f ds = eG T body ⟨oI 0 ds,[]⟩ (aLS res):=by
 rw [UH hf ds hl hlt]
 unfold eG
 cases Vm.ev T body ⟨oI 0 ds,[]⟩ with
 | none=>rfl
 | some q =>
  obtain ⟨e,s⟩:=q
  cases e <;> rfl
def ZM:List V→V
 | [v]=>v
 | vs=>.tup vs
def NW (fr:List (Nat × V)) (bl:List (Nat × Option aL)):List nF→(List V→Option D)→Option D
 | [],k=>k []
 | .tmp t :: r,k=>qN fr t fun v=>NW fr bl r fun l=>k (v :: l)
 | .cell t size isAgg :: r,k=>qN fr t fun p=>xP size isAgg p bl fun v=>NW fr bl r fun l=>k (v :: l)
theorem aHZ (res:List nF):∀ (k:List V→Option D),NW fr bl res k = (bB (rM ⟨fr,bl⟩) res).bind k:=by
 induction res with
 | nil=>intro k; rfl
 | cons r res ih =>
  intro k
  cases r with
  | tmp t =>
   simp only [NW,qN,ih,bB,rM,FK]
   cases bB (rM ⟨fr,bl⟩) res <;> rfl
  | cell t size isAgg =>
   simp only [NW,qN,L7,ih,bB,rM,C5,FK,FU]
   cases GJ size isAgg (lk fr .any t) (lk bl none) with
   | none=>rfl
   | some q =>
    obtain ⟨v,wr⟩:=q
    simp only [Option.bind_some]
    cases bB (rM ⟨fr,bl⟩) res <;> rfl
def aK7 (res:List nF):Ex→St→Option D
 | .normal,s=>match bB (rM s) res with
  | none=>none
  | some [v]=>tV s.blk v
  | some vs=>tV s.blk (.tup vs)
 | .ret,s=>match bB (rM s) res with
  | none=>none
  | some [v]=>tV s.blk v
  | some vs=>tV s.blk (.tup vs)
 | .exit _,_=>none
theorem aGz (res:List nF):(match bB (rM ⟨fr,bl⟩) res with
  | none=>none
  | some [v]=>tV (lk bl none) v
  | some vs=>tV (lk bl none) (.tup vs)) = NW fr bl res fun vs=>tV (lk bl none) (ZM vs):=by
 rw [aHZ]
 cases bB (rM ⟨fr,bl⟩) res with
 | none=>rfl
 | some vs =>
  cases vs with
  | nil=>rfl
  | cons v vs=>cases vs <;> rfl
theorem aKy (res:List nF):aK7 res .ret ⟨fr,bl⟩ = NW fr bl res fun vs=>tV (lk bl none) (ZM vs):=aGz res
theorem aEa (k:List V→Option D):NW fr bl [] k = k []:=rfl
theorem aC5 (t:Nat) (r:List nF) (k:List V→Option D):NW fr bl (.tmp t :: r) k = qN fr t fun v=>NW fr bl r fun l=>k (v :: l):=rfl
theorem aGw (x:V):ZM [x] = x:=rfl
theorem aHC (x y:V) (l:List V):ZM (x :: y :: l) = .tup (x :: y :: l):=rfl
theorem GO {T:vT} {f np nt:Nat} {res:List nF} {body:aT} (hf:T f = some (.code ⟨np,nt,res,body,true,false⟩)) (ds:List D) (hl:ds.length = np) (hlt:iO 0 ds = none):Vm.call T f ds = eG T body ⟨oI 0 ds,[]⟩ (aK7 res):=by
 rw [UH hf ds hl hlt]
 unfold eG
 cases Vm.ev T body ⟨oI 0 ds,[]⟩ with
 | none=>rfl
 | some q =>
  obtain ⟨e,s⟩:=q
  cases e <;> rfl
def aCs (v:V) (b:Option aL) (x y:Option β):Option β:=match v,b with
 | .nil,none=>x
 | _,_=>y
theorem aJn (x y:Option β):aCs .nil none x y = x:=rfl
theorem aDc (i v:Nat) (b:Option aL) (x y:Option β):aCs (.own i v) b x y = y:=rfl
theorem aF5 (live keep:List Nat) (t i e s:Nat) (l:List (Nat × Nat × Nat × Nat)) (c:List (Nat × Nat × Nat × Nat × Nat)) (ft:List Nat) (fc:List (Nat × Nat)) (k:List (Nat × V)→List (Nat × Option aL)→Option β) (hs:0 < s) :
  I8 ⟨live,keep,(t,i,e,s) :: l,c,ft,fc⟩ fr bl k = qN fr t fun v=>dK bl i fun b=>aCs v b (PQ e [] fun rows=>I8 ⟨live,keep,l,c,ft,fc⟩ ((t,.own i 0) :: fr) ((i,some (.rows 0 e s rows)) :: bl) k) (I8 ⟨live,keep,l,c,ft,fc⟩ fr bl k):=by
 show I8 ⟨live,keep,(t,i,e,s) :: l,c,ft,fc⟩ fr bl k = aCs (lk fr .any t) (lk bl none i) _ _
 unfold I8
 rw [aLK]
 unfold mkT PQ
 show k (zR.app ⟨live,keep,l,c,ft,fc⟩ (match lk fr .any t,lk bl none i with | .nil,none=>if 0 < s then _ else _ | _,_=>_)).fr (zR.app ⟨live,keep,l,c,ft,fc⟩ (match lk fr .any t,lk bl none i with | .nil,none=>if 0 < s then _ else _ | _,_=>_)).bl = _
 generalize lk fr .any t = v
 generalize lk bl none i = b
 cases v with
 | nil=>cases b with
  | none=>simp only [aCs,if_pos hs]
  | some b=>rfl
 | _=>rfl
theorem VF (k:List (Nat × Nat × V)→Option β):FI fr [] k = k []:=rfl
theorem UJ (o s:Nat) (x:dL) (l:List (Nat × Nat × dL)) (k:List (Nat × Nat × V)→Option β):FI fr ((o,s,x) :: l) k = d9 fr x fun v=>FI fr l fun vs=>k ((o,s,v) :: vs):=rfl
theorem aAp (l:List (Nat × Nat × dL)):∀ (k:List (Nat × Nat × V)→Option β),FI fr l k = k (l.map fun p=>(p.1,p.2.1,cV (lk fr .any) p.2.2)):=by
 induction l with
 | nil=>intro k; rfl
 | cons p l ih=>intro k; obtain ⟨o,s,x⟩:=p; simp only [FI,d9,ih,List.map_cons]
def LV (z:List V):List (Nat × Nat × V)→(List V→Option β)→Option β
 | [],k=>k z
 | (off,size,v) :: r,k=>B0 v fun cs=>G2 cs size (uU z off cs fun z'=>LV z' r k)
theorem aA1 (z:List V) (k:List V→Option β):LV z [] k = k z:=rfl
theorem WM (z:List V) (off size:Nat) (v:V) (r:List (Nat × Nat × V)) (k:List V→Option β):LV z ((off,size,v) :: r) k = B0 v fun cs=>G2 cs size (uU z off cs fun z'=>LV z' r k):=rfl
theorem aDI (ps:List (Nat × Nat × V)):∀ (z:List V) (k:List V→Option β),LV z ps k = (DF z ps).bind k:=by
 induction ps with
 | nil=>intro z k; rfl
 | cons p r ih =>
  intro z k
  obtain ⟨off,size,v⟩:=p
  simp only [LV,DF,B0,G2,uU,ih]
  by_cases h1:v.known = true
  ·by_cases h2:v.cells.length = size
   ·subst h2
    by_cases h3:off + v.cells.length ≤ z.length
    ·rw [if_pos h1,if_pos rfl,if_pos h3,if_pos ⟨rfl,h3,h1⟩]
    ·rw [if_pos h1,if_pos rfl,if_neg h3,if_neg (fun q=>h3 q.2.1)]; rfl
   ·rw [if_pos h1,if_neg h2,if_neg (fun q=>h2 q.1)]; rfl
  ·rw [if_neg h1,if_neg (fun q=>h1 q.2.2)]; rfl
theorem aBo (z:List V) (parts:List (Nat × Nat × dL)):uH T d (.build z parts) fr bl k kw = FI fr parts fun ps=>LV z ps fun cs=>k (.agg cs):=by
 rw [lF,aAp,aDI]
 simp only [eQ]
 have e1:(parts.map fun x=>match x with | (o,s,x)=>(o,s,cV (lk fr .any) x)) = parts.map fun p=>(p.1,p.2.1,cV (lk fr .any) p.2.2):=rfl
 rw [e1]
 cases DF z (parts.map fun p=>(p.1,p.2.1,cV (lk fr .any) p.2.2)) <;> rfl
theorem aJ (ds:List D):(bM ds).length = ds.length:=by simp [bM]
def aHo (bytes:Nat) (a b:V) (x:Nat→Option β):Option β:=match a,b with
 | .d (.int _ n),.d (.int _ m)=>if 0 ≤ n ∧ n ≤ m ∧ (bytes:Int) * m ≤ 281474976710656 ∧ m ≤ 9223372036854775807 then x n.toNat else none
 | _,_=>none
theorem aKq (bytes:Nat) (i j:IntKind) (n m:Int) (x:Nat→Option β):aHo bytes (.d (.int i n)) (.d (.int j m)) x = if 0 ≤ n ∧ n ≤ m ∧ (bytes:Int) * m ≤ 281474976710656 ∧ m ≤ 9223372036854775807 then x n.toNat else none:=rfl
theorem aI2 {α:Type} (e size bytes:Nat) (z:List D) (c:α→List D) (x:α) (hz:z = c x) (l cp:dL):uH T d (.makeSlice e size bytes z l cp) fr bl k kw = dK bl d fun b=>jR b (d9 fr l fun a=>d9 fr cp fun b=>aHo bytes a b fun n=>kw (.own d 0) [(d,some (.rows 0 e size (cM c (List.replicate n x))))]):=N0 e size bytes z c x hz l cp
theorem aDm {k:Ex→St→Option β} (c:dL) (a b:aT):eG T (.cond c a b) ⟨fr,bl⟩ k = d9 fr c fun v=>UG v (eG T a ⟨fr,bl⟩ k) (eG T b ⟨fr,bl⟩ k):=aDJ c a b _
theorem aGl (a b c:List (Nat × Option aL)) (t:Nat) (k:Option aL→Option β):dK ((a ++ b) ++ c) t k = dK (a ++ (b ++ c)) t k:=by rw [List.append_assoc]
def Y1 (rows:List (List D)) (k:V→Option β):Option β:=k (.d (.int .i64 rows.length))
theorem aG7 {α:Type} (c:α→List D) (xs:List α):Y1 (cM c xs) k = k (.d (.int .i64 (xs.length:Int))):=by unfold Y1; rw [aK]
theorem aIw:Y1 [] k = k (.d (.int .i64 0)):=rfl
theorem aHm (x:dL):uH T d (.len x) fr bl k kw = d9 fr x fun a=>FA a bl fun rows=>Y1 rows k:=aHJ x
end
end Vm
end Go.Proofs.Ytiimibimkpimbaa
set_option linter.unusedVariables false
set_option linter.unusedSimpArgs false
namespace Go.Proofs.Ytiimibimkpimbaa
namespace Vm
open Go.RowKit
section
variable {β:Type} {T:vT}
def HQ (d:Nat) (op:jQ) (fr:List (Nat × V)) (bl:List (Nat × Option aL)) (k:List Nat→Option β):Option β :=
 k ((if op.new = true then [d] else []) ++ ((op.peeks.flatMap fun x=>(cV (lk fr .any) x).ids) ++ op.deeps.flatMap fun x=>(cV (lk fr .any) x).dids (lk bl none)))
def F7 (wr:List (Nat × Option aL)) (k:List Nat→Option β):Option β:=k (wr.map (·.1))
theorem aB0 (k:List Nat→Option β):F7 [] k = k []:=rfl
theorem aIC (i:Nat) (b:Option aL) (w:List (Nat × Option aL)) (k:List Nat→Option β):F7 ((i,b) :: w) k = F7 w fun l=>k (i :: l):=rfl
theorem aEW (w:List (Nat × Option aL)) (k:List Nat→Option β):F7 ([] ++ w) k = F7 w k:=rfl
theorem aCA (p:Nat × Option aL) (v w:List (Nat × Option aL)) (k:List Nat→Option β):F7 ((p :: v) ++ w) k = F7 (p :: (v ++ w)) k:=rfl
theorem VA (d st:Nat) (op:jQ) (l:List bL) (fr:List (Nat × V)) (bl:List (Nat × Option aL)) (fp:List Fp) (k:St→List Fp→Option β) :
  nC T (⟨some d,op,none,st⟩ :: l) ⟨fr,bl⟩ fp k = uH T st op fr bl (fun v=>HQ st op fr bl fun f=>nC T l ⟨(d,v) :: fr,bl⟩ ((f,[]) :: fp) k) (fun v wr=>F7 wr fun ws=>HQ st op fr bl fun f=>nC T l ⟨(d,v) :: fr,wr ++ bl⟩ ((f,ws) :: fp) k):=by
 rw [LP]
 unfold uH GS HQ
 show (match eQ (call T) st (cV (lk fr .any)) (lk bl none) op with | some (v,wr)=>_ | none=>none) = _
 cases eQ (call T) st (cV (lk fr .any)) (lk bl none) op with
 | none=>rfl
 | some r=>obtain ⟨v,wr⟩:=r; cases wr <;> rfl
theorem TO (st:Nat) (op:jQ) (l:List bL) (fr:List (Nat × V)) (bl:List (Nat × Option aL)) (fp:List Fp) (k:St→List Fp→Option β) :
  nC T (⟨none,op,none,st⟩ :: l) ⟨fr,bl⟩ fp k = uH T st op fr bl (fun _=>HQ st op fr bl fun f=>nC T l ⟨fr,bl⟩ ((f,[]) :: fp) k) (fun _ wr=>F7 wr fun ws=>HQ st op fr bl fun f=>nC T l ⟨fr,wr ++ bl⟩ ((f,ws) :: fp) k):=by
 rw [LP]
 unfold uH GS HQ
 show (match eQ (call T) st (cV (lk fr .any)) (lk bl none) op with | some (v,wr)=>_ | none=>none) = _
 cases eQ (call T) st (cV (lk fr .any)) (lk bl none) op with
 | none=>rfl
 | some r=>obtain ⟨v,wr⟩:=r; cases wr <;> rfl
theorem aAM (fr:List (Nat × V)) (bl:List (Nat × Option aL)) (fp:List Fp) (k:St→List Fp→Option β):nC T [] ⟨fr,bl⟩ fp k = k ⟨fr,bl⟩ fp:=rfl
theorem aGX {l:List bL} {ps:List (Nat × Nat)} {s:St} {fp:List Fp} (k:St→Option β) (h:GB l fp.reverse ps = true):aGJ l ps k s fp = k s:=if_pos h
theorem zV {d:Option Nat} {st:Nat} {g g' : Option (Nat × Bool)} {fr:Nat→V} {bl:Nat→Option aL} {wr:List (Nat × Option aL)} (t:Nat) (b:Bool) (op:jQ):uQ ⟨d,bZ t b op,g,st⟩ fr bl wr = uQ ⟨d,op,g',st⟩ fr bl wr:=by
 cases op with
 | pick c x y =>
  cases c with
  | t t' =>
   simp only [bZ]
   split <;> rfl
  | c v=>rfl
 | _=>rfl
theorem X7 {C:Nat→List D→Option D} {s:St} {t:Nat} {b:Bool} (h:s.get t = .d (.bool b)) (o:bL):kB C (b7 t b o) s = kB C o s:=by
 obtain ⟨d,op,g,st⟩:=o
 cases g with
 | some g =>
  obtain ⟨t',w⟩:=g
  simp only [b7]
  split
  ·rename_i e
   subst e
   split
   ·rename_i e
    subst e
    simp only [kB,bL.wants,h,w6 h]
    cases w <;> simp only [vJ] <;> cases eQ C st (cV s.get) s.blk op <;> first | rfl | (simp [zV (g':=some (t',false)),zV (g':=some (t',true))]; done) | (simp [zV (g':=some (t',false)),zV (g':=some (t',true))]; rfl)
   ·rename_i e
    simp only [kB,bL.wants,h,eQ,cV]
    cases w <;> cases b <;> simp_all [vJ,uQ,jQ.new,jQ.peeks,jQ.deeps]
  ·simp only [kB,bL.wants,w6 h]
   cases vJ (s.get t') w <;> simp only [] <;> cases eQ C st (cV s.get) s.blk op <;> simp [zV (g':=some (t',w))]
 | none =>
  simp only [b7,kB,bL.wants,w6 h]
  cases eQ C st (cV s.get) s.blk op <;> simp [zV (g':=none)]
theorem V4 {C:Nat→List D→Option D} {o:bL} {s s' : St} {p:Fp} {t:Nat} (h:¬ o.dst = some t) (e:kB C o s = some (s',p)):s'.get t = s.get t:=by
 unfold kB at e
 split at e
 ·split at e
  ·cases e; exact BG h
  ·cases e
 ·cases e; exact BG h
 ·cases e
theorem FB {t:Nat} {b:Bool}:∀ (l:List bL) {s:St} (fp:List Fp) (k:St→List Fp→Option β) (h:s.get t = .d (.bool b)),nC T (bW t b l) s fp k = nC T l s fp k
 | [],s,fp,k,h=>rfl
 | o :: l,s,fp,k,h=>by
  simp only [bW,nC,X7 h]
  cases e:kB (call T) o s with
  | none=>rfl
  | some q =>
   obtain ⟨s',p⟩:=q
   simp only
   split
   ·rfl
   ·rename_i hd
    exact FB l _ k (by rw [V4 hd e]; exact h)
noncomputable def EL (T:vT) (v:V) (t:Nat) (l:List bL) (s:St) (fp:List Fp) (k:St→List Fp→Option β):Option β:=match v with
 | .d (.bool b)=>if b = true then nC T (bW t true l) s fp k else nC T (bW t false l) s fp k
 | .tup []=>match l with
  | o :: r=>nC T r (s.put o.dst (.tup []) []) (([],[]) :: fp) k
  | []=>none
 | _=>none
theorem SH (d:Option Nat) (op:jQ) (t:Nat) (w:Bool) (st:Nat) (l:List bL) (fr:List (Nat × V)) (bl:List (Nat × Option aL)) (fp:List Fp) (k:St→List Fp→Option β) :
  nC T (⟨d,op,some (t,w),st⟩ :: l) ⟨fr,bl⟩ fp k = qN fr t fun v=>EL T v t (⟨d,op,some (t,w),st⟩ :: l) ⟨fr,bl⟩ fp k:=by
 show _ = EL T (lk fr .any t) t _ _ fp k
 generalize hv:lk fr .any t = v
 have bad:∀ (q:vJ v w = .bad),nC T (⟨d,op,some (t,w),st⟩ :: l) ⟨fr,bl⟩ fp k = none:=by
  intro q
  simp only [nC,kB,bL.wants]
  rw [show (St.get ⟨fr,bl⟩ t) = v from hv,q]
 cases v with
 | d x =>
  cases x with
  | bool b =>
   simp only [EL]
   cases b with
   | true=>rw [if_pos rfl,FB (t:=t) (b:=true) (s:=⟨fr,bl⟩) _ _ _ hv]
   | false=>rw [if_neg (by decide),FB (t:=t) (b:=false) (s:=⟨fr,bl⟩) _ _ _ hv]
  | _=>exact bad rfl
 | tup vs =>
  cases vs with
  | nil =>
   simp only [EL,nC,kB,bL.wants]
   rw [show (St.get ⟨fr,bl⟩ t) = _ from hv]
   rfl
  | cons x l=>exact bad rfl
 | _=>exact bad rfl
theorem aAk (b:Bool) (t:Nat) (l:List bL) (s:St) (fp:List Fp) (k:St→List Fp→Option β):EL T (.d (.bool b)) t l s fp k = if b = true then nC T (bW t true l) s fp k else nC T (bW t false l) s fp k:=rfl
theorem aAY (t d st:Nat) (op:jQ) (g:Option (Nat × Bool)) (l:List bL) (fr:List (Nat × V)) (bl:List (Nat × Option aL)) (fp:List Fp) (k:St→List Fp→Option β):EL T (.tup []) t (⟨some d,op,g,st⟩ :: l) ⟨fr,bl⟩ fp k = nC T l ⟨(d,.tup []) :: fr,bl⟩ (([],[]) :: fp) k:=rfl
theorem yL {l l' : List bL} {s:St} {fp:List Fp} {k:St→List Fp→Option β} (h:l = l'):nC T l s fp k = nC T l' s fp k:=by rw [h]
theorem aHa (x:D) (ds:List D) (k:D→Option β):iI (x :: ds) 0 k = k x:=rfl
section
variable {d:Nat} {fr:List (Nat × V)} {bl:List (Nat × Option aL)} {k:List Nat→Option β}
def CU (v:V) (k:List Nat→Option β):Option β:=k v.ids
theorem aJ5 (x:D):CU (.d x) k = k []:=rfl
theorem aCM (i o:Nat):CU (.ptr i o) k = k [i]:=rfl
theorem aFk (i o:Nat):CU (.own i o) k = k [i]:=rfl
theorem aAl (i v j o:Nat):CU (.orow i v j o) k = k [i]:=rfl
def M2 (bl:List (Nat × Option aL)):List V→(List Nat→Option β)→Option β
 | [],k=>k []
 | c :: cs,k=>k (c.dids1 (lk bl none) ++ cs.flatMap (V.dids1 (lk bl none)))
def DS (bl:List (Nat × Option aL)) (v:V) (k:List Nat→Option β):Option β:=k (v.dids (lk bl none))
theorem OU (cs:List V):M2 bl cs k = k (cs.flatMap (V.dids1 (lk bl none))):=by cases cs <;> rfl
theorem WG:M2 bl [] k = k []:=rfl
theorem aFK (x:D) (cs:List V):M2 bl (.d x :: cs) k = M2 bl cs k:=by simp only [OU]; rfl
theorem aG1 (x:D):DS bl (.d x) k = k []:=rfl
theorem aB2 (i o:Nat):DS bl (.own i o) k = k [i]:=rfl
theorem aBb (cs:List V):DS bl (.agg cs) k = M2 bl cs k:=by rw [OU]; rfl
theorem TZ (ds:List D):(bM ds).flatMap (V.dids1 (lk bl none)) = []:=by
 induction ds with
 | nil=>rfl
 | cons x ds ih=>exact ih
theorem WJ (ds:List D):DS bl (oJ ds) k = k []:=by
 show k ((bM ds).flatMap (V.dids1 (lk bl none))) = _
 rw [TZ]
theorem aDn (x:dL):HQ d (.move x) fr bl k = k []:=rfl
theorem aAv (z:List V):HQ d (.alloc z) fr bl k = k [d]:=rfl
theorem aAJ (z:List V) (ps:List (Nat × Nat × dL)):HQ d (.build z ps) fr bl k = k []:=rfl
theorem fp1 (l:List Nat):([]:List Nat) ++ ((l ++ []) ++ []) = l:=by simp
theorem aD9 (s:Nat) (a:Bool) (x:dL):HQ d (.load s a x) fr bl k = d9 fr x fun v=>CU v k:=by
 show k ([] ++ (((cV (lk fr .any) x).ids ++ []) ++ [])) = _
 rw [fp1]; rfl
theorem QE (x:dL):HQ d (.nilCheck x) fr bl k = d9 fr x fun v=>CU v k:=by
 show k ([] ++ (((cV (lk fr .any) x).ids ++ []) ++ [])) = _
 rw [fp1]; rfl
theorem NF (o:Nat) (x:dL):HQ d (.fieldAddr o x) fr bl k = d9 fr x fun v=>CU v k:=by
 show k ([] ++ (((cV (lk fr .any) x).ids ++ []) ++ [])) = _
 rw [fp1]; rfl
theorem aBA (s:Nat) (x:dL) (lo hi:Option dL):HQ d (.slice s x lo hi) fr bl k = d9 fr x fun v=>CU v k:=by
 show k ([] ++ (((cV (lk fr .any) x).ids ++ []) ++ [])) = _
 rw [fp1]; rfl
theorem NN (s:Nat) (x i:dL):HQ d (.indexAddr s x i) fr bl k = d9 fr x fun v=>CU v k:=by
 show k ([] ++ (((cV (lk fr .any) x).ids ++ []) ++ [])) = _
 rw [fp1]; rfl
theorem aAT (s:Nat) (x v:dL):HQ d (.store s x v) fr bl k = d9 fr x fun a=>CU a fun l=>d9 fr v fun b=>DS bl b fun m=>k (l ++ m):=by
 show k ([] ++ (((cV (lk fr .any) x).ids ++ []) ++ ((cV (lk fr .any) v).dids (lk bl none) ++ []))) = _
 rw [List.nil_append,List.append_nil,List.append_nil]; rfl
theorem XY (e s b:Nat) (x y:dL):HQ d (.append e s b x y) fr bl k = d9 fr x fun u=>CU u fun l=>d9 fr y fun v=>CU v fun m=>k (d :: (l ++ m)):=by
 show k ([d] ++ (((cV (lk fr .any) x).ids ++ ((cV (lk fr .any) y).ids ++ [])) ++ [])) = _
 rw [List.append_nil,List.append_nil]; rfl
def DO (fr:List (Nat × V)) (bl:List (Nat × Option aL)):List dL→(List Nat→Option β)→Option β
 | [],k=>k []
 | x :: l,k=>d9 fr x fun v=>DS bl v fun m=>DO fr bl l fun n=>k (m ++ n)
theorem O2 (l:List dL):∀ (k:List Nat→Option β),DO fr bl l k = k (l.flatMap fun x=>(cV (lk fr .any) x).dids (lk bl none)):=by
 induction l with
 | nil=>intro k; rfl
 | cons x l ih=>intro k; simp only [DO,d9,DS,ih,List.flatMap_cons]
theorem WZ (k:List Nat→Option β):DO fr bl [] k = k []:=rfl
theorem UR (x:dL) (l:List dL) (k:List Nat→Option β):DO fr bl (x :: l) k = d9 fr x fun v=>DS bl v fun m=>DO fr bl l fun n=>k (m ++ n):=rfl
theorem aEi (f:Nat) (args:List dL):HQ d (.call f args) fr bl k = DO fr bl args k:=by
 rw [O2]; rfl
theorem aAh (g:dL) (args:List dL):HQ d (.callv g args) fr bl k = DO fr bl args k:=by
 rw [O2]; rfl
def FY (fr:List (Nat × V)) (bl:List (Nat × Option aL)):List (Nat × dL)→(List Nat→Option β)→Option β
 | [],k=>k []
 | (_,x) :: l,k=>d9 fr x fun v=>DS bl v fun m=>FY fr bl l fun n=>k (m ++ n)
theorem aAd (l:List (Nat × dL)):∀ (k:List Nat→Option β),FY fr bl l k = k ((l.map fun p=>p.2).flatMap fun x=>(cV (lk fr .any) x).dids (lk bl none)):=by
 induction l with
 | nil=>intro k; rfl
 | cons x l ih=>intro k; obtain ⟨i,x⟩:=x; simp only [FY,d9,DS,ih,List.map_cons,List.flatMap_cons]
theorem VW (k:List Nat→Option β):FY fr bl [] k = k []:=rfl
theorem R4 (i:Nat) (x:dL) (l:List (Nat × dL)) (k:List Nat→Option β):FY fr bl ((i,x) :: l) k = d9 fr x fun v=>DS bl v fun m=>FY fr bl l fun n=>k (m ++ n):=rfl
theorem MT (e s n:Nat) (z:List D) (ps:List (Nat × dL)):HQ d (.buildSlice e s z n ps) fr bl k = FY fr bl ps fun l=>k (d :: l):=by
 rw [aAd]; rfl
theorem aHc (c:Nat) (op:BinOp) (x y:dL):HQ d (.bin c op x y) fr bl k = k []:=rfl
theorem aG8 (ks:List Nat) (n:Bool) (x y:dL):HQ d (.eqS ks n x y) fr bl k = k []:=rfl
theorem aKD (op:UnOp) (x:dL):HQ d (.un op x) fr bl k = k []:=rfl
theorem TP (x:dL) (i:Nat):HQ d (.extract x i) fr bl k = k []:=rfl
theorem aDO {k:Ex→St→Option β} (l:List bL) (ps:List (Nat × Nat)):eG T (.region l (some ps)) ⟨fr,bl⟩ k = nC T l ⟨fr,bl⟩ [] (aGJ l ps (k .normal)):=by
 rw [aC3,aIL]
end
section
variable {d:Nat} {fr:List (Nat × V)} {bl:List (Nat × Option aL)} {k:V→Option β} {kw:V→List (Nat × Option aL)→Option β}
def fzN (id:Nat) (f:List (Nat × Option aL)) (x:Option β):Option β:=if xA id f = true then x else none
theorem PE (id:Nat) (b:List (Nat × Option aL)):∀ a:List (Nat × Option aL),xA id (a ++ b) = if xA id a = true then xA id b else false
 | []=>rfl
 | (i,x) :: a=>by
  simp only [List.cons_append,xA]
  by_cases h:i = id
  ·simp [h]
  ·simp only [if_neg h]; exact PE id b a
theorem aHO (id:Nat) (x:Option β):fzN id [] x = x:=rfl
theorem aLb (id i:Nat) (b:Option aL) (w:List (Nat × Option aL)) (x:Option β) (h:(i == id) = false):fzN id ((i,b) :: w) x = fzN id w x:=by
 have h:¬ i = id:=by simpa using h
 simp only [fzN,xA,if_neg h]
theorem aIJ (id:Nat) (a b:List (Nat × Option aL)) (x:Option β):fzN id (a ++ b) x = fzN id a (fzN id b x):=by
 unfold fzN
 rw [PE]
 by_cases h:xA id a = true
 ·rw [if_pos h,if_pos h]
 ·rw [if_neg h,if_neg h]; rfl
def kD (row:List D) (off:Nat) (ds:List D) (size:Nat) (k:List D→Option β):Option β:=if ds.length = size ∧ off + size ≤ row.length then k (j9 row off ds) else none
theorem Q1 (c:D) (cs:List D) (off:Nat) (e:D) (ds:List D) (n:Nat) (k:List D→Option β):kD (c :: cs) (off + 1) (e :: ds) n k = kD cs off (e :: ds) n fun l=>k (c :: l):=by
 unfold kD
 simp only [List.length_cons,j9]
 by_cases h:ds.length + 1 = n ∧ off + n ≤ cs.length
 ·exact (if_pos (by omega)).trans (if_pos h).symm
 ·exact (if_neg (by omega)).trans (if_neg h).symm
theorem TC (c:D) (cs:List D) (e:D) (ds:List D) (n:Nat) (k:List D→Option β):kD (c :: cs) 0 (e :: ds) (n + 1) k = kD cs 0 ds n fun l=>k (e :: l):=by
 unfold kD
 simp only [List.length_cons,j9]
 by_cases h:ds.length = n ∧ 0 + n ≤ cs.length
 ·exact (if_pos (by omega)).trans (if_pos h).symm
 ·exact (if_neg (by omega)).trans (if_neg h).symm
theorem ST (cs:List D) (k:List D→Option β):kD cs 0 [] 0 k = k cs:=by
 unfold kD
 rw [if_pos ⟨rfl,by omega⟩,OX]
def xK (e:Nat) (rows:List (List D)) (i:Nat) (row:List D) (k:List (List D)→Option β):Option β:=k (rows.set i row)
theorem BB {α:Type} (e:Nat) (c:α→List D) (xs:List α) (i:Nat) (x:α) (k:List (List D)→Option β):xK e (cM c xs) i (c x) k = k (cM c (xs.set i x)):=by
 unfold xK
 rw [aJq]
theorem aIb {α:Type} (size v i off id e sz:Nat) (w:V) (c:α→List D) (xs:List α):GP size v i off id w bl (some (.rows v e sz (cM c xs))) kw = P0 w bl fun ds f=>fzN id f (xs[i]?.bind fun x=>kD (c x) off ds size fun row=>xK e (cM c xs) i row fun rows=>kw .any ((id,some (.rows v e sz rows)) :: f)):=by
 unfold GP P0
 simp only [LH,if_true,cM,List.getElem?_map]
 cases xs[i]? with
 | none =>
  simp only [Option.map_none,Option.bind_none]
  cases bB (mN (lk bl none)) w.cells with
  | none=>rfl
  | some ds=>simp only [fzN]; split <;> rfl
 | some x =>
  simp only [Option.map_some,Option.bind_some]
  cases bB (mN (lk bl none)) w.cells with
  | none=>rfl
  | some ds =>
   simp only [kD,xK,fzN]
   by_cases h1:xA id (sX (lk bl none) w) = true
   ·rw [if_pos h1]
    by_cases h2:ds.length = size ∧ off + size ≤ (c x).length
    ·rw [if_pos h2,if_pos ⟨h2.1,h2.2,h1⟩]; rfl
    ·rw [if_neg h2,if_neg (fun q=>h2 ⟨q.1,q.2.1⟩)]; rfl
   ·rw [if_neg h1,if_neg (fun q=>h1 q.2.2)]; rfl
end
end
section
variable {β:Type} {T:vT} {bl:List (Nat × Option aL)} {k:V→Option β} {kw:V→List (Nat × Option aL)→Option β}
section
variable {α:Type} (size id v:Nat) (c:α→List D) (xs:List α) (hs:sized size (cM c xs) = true)
include hs
end
end
end Vm
end Go.Proofs.Ytiimibimkpimbaa
set_option linter.unusedVariables false
set_option linter.unusedSimpArgs false
namespace Go.Proofs.Ytiimibimkpimbaa
namespace Vm
open Go.RowKit
section
variable {β:Type} {T:vT} {d:Nat} {fr:List (Nat × V)} {bl:List (Nat × Option aL)} {k:V→Option β} {kw:V→List (Nat × Option aL)→Option β}
def aCd:List dL→Nat→(dL→Option β)→Option β
 | [],_,_=>none
 | x :: _,0,g=>g x
 | _ :: l,n + 1,g=>aCd l n g
theorem aKr (x:dL) (l:List dL) (g:dL→Option β):aCd (x :: l) 0 g = g x:=rfl
theorem aJT (x:dL) (l:List dL) (n:Nat) (g:dL→Option β):aCd (x :: l) (n + 1) g = aCd l n g:=rfl
theorem ZH (g:dL→Option β):∀ (l:List dL) (n:Nat),aCd l n g = l[n]?.bind g
 | [],_=>rfl
 | _ :: _,0=>rfl
 | _ :: l,n + 1=>ZH g l n
def YC (v:V) (g:Nat→Nat→Option β):Option β:=match v with
 | .own id ver=>g id ver
 | _=>none
theorem aJC (id ver:Nat) (g:Nat→Nat→Option β):YC (.own id ver) g = g id ver:=rfl
def TU (v:V) (bl:List (Nat × Option aL)) (g:D→Option β):Option β:=(GV (lk bl none) v).bind g
def WK (ver:Nat) (b:Option aL) (g:D→Option β):Option β:=match b with
 | some (.rows v e size rows)=>if ver = v then g (.own (.ref 0) [(e,size)] [rows]) else none
 | _=>none
theorem aA9 (id ver:Nat) (g:D→Option β):TU (.own id ver) bl g = dK bl id fun b=>WK ver b g:=by
 unfold TU dK WK GV
 simp only
 cases lk bl none id with
 | none=>rfl
 | some b =>
  cases b with
  | rows v e size rows=>simp only; split <;> rfl
  | _=>rfl
theorem RX (v e s:Nat) (rows:List (List D)) (g:D→Option β):WK v (some (.rows v e s rows)) g = g (.own (.ref 0) [(e,s)] [rows]):=if_pos rfl
def CA (fr:List (Nat × V)) (bl:List (Nat × Option aL)) (t:Nat):Nat→List dL→(List D→List (Nat × Option aL)→Option β)→Option β
 | _,[],g=>g [] []
 | i,x :: l,g=>d9 fr x fun v=>if i = t then TU v bl fun y=>CA fr bl t (i + 1) l fun ds f=>g (y :: ds) f else yZ v bl fun y f=>CA fr bl t (i + 1) l fun ds f'=>g (y :: ds) (f ++ f')
theorem aCl (t i:Nat) (g:List D→List (Nat × Option aL)→Option β):CA fr bl t i [] g = g [] []:=rfl
theorem aB5 (t i:Nat) (x:dL) (l:List dL) (g:List D→List (Nat × Option aL)→Option β) (h:(i == t) = true):CA fr bl t i (x :: l) g = d9 fr x fun v=>TU v bl fun y=>CA fr bl t (i + 1) l fun ds f=>g (y :: ds) f:=by
 have:i = t:=by simpa using h
 simp only [CA,if_pos this]
theorem VR (t i:Nat) (x:dL) (l:List dL) (g:List D→List (Nat × Option aL)→Option β) (h:(i == t) = false):CA fr bl t i (x :: l) g = d9 fr x fun v=>yZ v bl fun y f=>CA fr bl t (i + 1) l fun ds f'=>g (y :: ds) (f ++ f'):=by
 have:¬ i = t:=by simpa using h
 simp only [CA,if_neg this]
theorem K4 (t:Nat):∀ (l:List dL) (i:Nat) (g:List D→List (Nat × Option aL)→Option β),CA fr bl t i l g = (AR (lk bl none) t i (l.map (cV (lk fr .any)))).bind fun ds=>g ds (rN (lk bl none) t i (l.map (cV (lk fr .any))))
 | [],i,g=>rfl
 | x :: l,i,g=>by
  simp only [CA,List.map_cons,AR,rN,d9]
  by_cases h:i = t
  ·simp only [if_pos h,TU,K4 t l (i + 1)]
   cases GV (lk bl none) (cV (lk fr .any) x) with
   | none=>rfl
   | some y =>
    cases AR (lk bl none) t (i + 1) (l.map (cV (lk fr .any))) with
    | none=>rfl
    | some ds=>simp
  ·simp only [if_neg h,yZ,K4 t l (i + 1)]
   cases jS (lk bl none) (cV (lk fr .any) x) with
   | none=>rfl
   | some y=>cases AR (lk bl none) t (i + 1) (l.map (cV (lk fr .any))) <;> rfl
noncomputable def GR (T:vT) (bl:List (Nat × Option aL)) (f id ver:Nat) (ds:List D) (kw:V→List (Nat × Option aL)→Option β):Option β:=match call T f ds with
 | some (.own y [(e,size)] [rows'])=>match lk bl none id with
  | some (.rows v e' size' _)=>if ver = v ∧ e = e' ∧ size = size' ∧ FF y = true ∧ o5 rows' = true then kw (toV y) [(id,some (.rows v e size rows'))] else none
  | _=>none
 | _=>none
theorem aEz (f:Nat) (args:List dL) (t:Nat):uH T d (.lend f args t) fr bl k kw = aCd args t fun x=>d9 fr x fun v=>YC v fun id ver=>CA fr bl t 0 args fun ds fz=>fzN id fz (GR T bl f id ver ds kw):=by
 rw [lF,ZH]
 simp only [eQ,List.getElem?_map]
 cases args[t]? with
 | none=>rfl
 | some x =>
  simp only [Option.map_some,Option.bind_some,d9]
  generalize cV (lk fr .any) x = v
  cases v with
  | own id ver =>
   simp only [YC,K4]
   cases AR (lk bl none) t 0 (args.map (cV (lk fr .any))) with
   | none=>rfl
   | some ds =>
    simp only [Option.bind_some,fzN]
    split
    ·unfold GR
     generalize call T f ds = r
     generalize lk bl none id = b
     split
     ·split
      ·split
       ·rename_i hq
        exact (if_pos hq).symm
       ·rename_i hq
        exact (if_neg hq).symm
      ·rename_i hq
       cases b with
       | none=>rfl
       | some b=>cases b <;> first | rfl | exact absurd rfl (hq _ _ _ _)
     ·rename_i hq
      split
      ·exact absurd rfl (hq _ _ _ _)
      ·rfl
    ·rfl
  | _=>rfl
def CW (ver e size:Nat) (rows' : List (List D)) (b:Option aL) (g:Option aL→Option β):Option β:=match b with
 | some (.rows v e' s' _)=>if ver = v ∧ e = e' ∧ size = s' then g (some (.rows v e size rows')) else none
 | _=>none
theorem S5 (v e s:Nat) (rows rows' : List (List D)) (g:Option aL→Option β):CW v e s rows' (some (.rows v e s rows)) g = g (some (.rows v e s rows')):=if_pos ⟨rfl,rfl,rfl⟩
theorem AN {α:Type} {f e size:Nat} {ds:List D} {o:Option α} {y:α→D} {r:α→List (List D)} (h:call T f ds = o.map fun x=>.own (y x) [(e,size)] [r x]) (hy:∀ x,FF (y x) = true) (hr:∀ x,o5 (r x) = true) (id ver:Nat) :
  GR T bl f id ver ds kw = o.bind fun x=>dK bl id fun b=>CW ver e size (r x) b fun b'=>kw (toV (y x)) [(id,b')]:=by
 unfold GR
 rw [h]
 cases o with
 | none=>rfl
 | some x =>
  simp only [Option.map_some,Option.bind_some,dK,CW,hy x,hr x,and_true]
theorem qG {α:Type} (c:α→List D) (hc:∀ x,(c x).all CE = true) (xs:List α):o5 (cM c xs) = true:=by
 unfold o5 cM
 rw [List.all_eq_true]
 intro row hr
 obtain ⟨x,_,rfl⟩:=List.mem_map.1 hr
 exact hc x
def aJD (res:List nF) (t:Nat):Ex→St→Option D
 | .normal,s=>u6 ⟨0,0,res,.skip,true,true⟩ s t
 | .ret,s=>u6 ⟨0,0,res,.skip,true,true⟩ s t
 | .exit _,_=>none
def TD (ver:Nat) (b:Option aL) (g:Nat→Nat→List (List D)→Option D):Option D:=match b with
 | some (.rows v e size rows)=>if ver = v then g e size rows else none
 | _=>none
theorem VO (v e s:Nat) (rows:List (List D)) (g:Nat→Nat→List (List D)→Option D):TD v (some (.rows v e s rows)) g = g e s rows:=if_pos rfl
def QG (e s:Nat) (rows:List (List D)) (y:D):Option D:=if FF y = true then some (.own y [(e,s)] [rows]) else none
theorem aDT (e s:Nat) (rows:List (List D)):QG e s rows (.tup []) = some (.own (.tup []) [(e,s)] [rows]):=rfl
theorem ZE (res:List nF) (t:Nat):u6 ⟨0,0,res,.skip,true,true⟩ ⟨fr,bl⟩ t = qN fr t fun v=>YC v fun id ver=>dK bl id fun b=>TD ver b fun e s rows=>(FS fr bl res I7).bind (QG e s rows):=by
 unfold u6 qN
 rw [FK]
 cases lk fr .any t with
 | own id ver =>
  simp only [YC,dK,TD]
  rw [FU]
  cases lk bl none id with
  | none=>rfl
  | some b =>
   cases b with
   | rows v e size rows =>
    simp only
    split
    ·rw [← ZV]
     cases bB (rM ⟨fr,bl⟩) res with
     | none=>rfl
     | some us =>
      cases us with
      | nil=>rfl
      | cons u us=>cases us with
       | nil=>simp only [FU]; cases jS (lk bl none) u <;> rfl
       | cons w us=>simp only [FU]; cases toD (lk bl none) (.tup (u :: w :: us)) <;> rfl
    ·rfl
   | _=>rfl
 | _=>rfl
theorem aJd (res:List nF) (t:Nat):aJD res t .normal ⟨fr,bl⟩ = qN fr t fun v=>YC v fun id ver=>dK bl id fun b=>TD ver b fun e s rows=>(FS fr bl res I7).bind (QG e s rows):=ZE res t
theorem aKd (res:List nF) (t:Nat):aJD res t .ret ⟨fr,bl⟩ = qN fr t fun v=>YC v fun id ver=>dK bl id fun b=>TD ver b fun e s rows=>(FS fr bl res I7).bind (QG e s rows):=ZE res t
theorem aF7:I7 [] = some (.tup []):=rfl
theorem L9 {T:vT} {f np nt t:Nat} {res:List nF} {body:aT} {fs:Bool} (hf:T f = some (.code ⟨np,nt,res,body,fs,true⟩)) (ds:List D) (hl:ds.length = np) (hlt:iO 0 ds = some t) (hnd:xG t body = true):Vm.call T f ds = eG T body (xQ t ds) (aJD res t):=by
 rw [aBU hf ds hl hlt rfl hnd]
 unfold eG
 cases Vm.ev T body (xQ t ds) with
 | none=>rfl
 | some q =>
  obtain ⟨e,s⟩:=q
  cases e <;> rfl
end
section
variable {β:Type} {T:vT}
theorem UT {c:aT} {n:Nat} {r:Ex × St}:∀ (k:Nat) (s:St),sB (bY (iW T n) n c) k s = some r→ev T (.loop c) s = some r
 | 0,s,e=>by cases e
 | k + 1,s,e=>by
  simp only [sB] at e
  cases hc:bY (iW T n) n c s with
  | none=>rw [hc] at e; cases e
  | some q =>
   have h1:=iB.2 ⟨n,hc⟩
   rw [hc] at e
   rw [QS,h1]
   obtain ⟨ex,s'⟩:=q
   cases ex with
   | normal=>exact UT k s' e
   | exit id=>exact e
   | ret=>exact e
noncomputable def aI1 (T:vT) (c:aT):Ex × St→Option (Ex × St)
 | (.normal,s)=>ev T (.loop c) s
 | q=>some q
theorem aB3 {S X:Type} {step:S→Option (S ⊕ X)} {c:aT} (enc:S→St) (out:X→Ex × St) (h:∀ s,ev T c (enc s) = eN enc out (step s)) (s:S) :
  ev T (.loop c) (enc s) = (eZ step s).bind fun x=>aI1 T c (out x):=by
 refine qF fun r=>?_
 rw [Option.bind_eq_some_iff]
 constructor
 ·intro e
  obtain ⟨n,hn⟩:=iB.1 e
  simp only [bY] at hn
  generalize hk:(n:Nat) = k at hn
  have key:∀ (k:Nat) (s:S),sB (bY (iW T n) n c) k (enc s) = some r→∃ x,xS step k s = some x ∧ aI1 T c (out x) = some r:=by
   intro k
   induction k with
   | zero=>intro s e; cases e
   | succ k ih =>
    intro s e
    simp only [sB] at e
    cases hc:bY (iW T n) n c (enc s) with
    | none=>rw [hc] at e; cases e
    | some q =>
     have h1:=iB.2 ⟨n,hc⟩
     rw [h s] at h1
     rw [hc] at e
     simp only [xS]
     cases hs:step s with
     | none=>rw [hs] at h1; cases h1
     | some y =>
      rw [hs] at h1
      cases y with
      | inl s' =>
       obtain rfl:=Option.some.inj h1
       exact ih s' e
      | inr x =>
       simp only [eN,Option.some.injEq] at h1
       refine ⟨x,rfl,?_⟩
       rw [h1]
       obtain ⟨ex,s'⟩:=q
       cases ex with
       | normal=>exact UT k s' e
       | exit id=>exact e
       | ret=>exact e
  subst hk
  obtain ⟨x,g1,g2⟩:=key n s hn
  exact ⟨x,xH.2 ⟨n,g1⟩,g2⟩
 ·rintro ⟨x,h1,h2⟩
  obtain ⟨n,hn⟩:=xH.1 h1
  clear h1
  induction n generalizing s with
  | zero=>cases hn
  | succ n ih =>
   simp only [xS] at hn
   rw [QS,h s]
   cases hs:step s with
   | none=>rw [hs] at hn; cases hn
   | some q =>
    rw [hs] at hn
    cases q with
    | inl s'=>exact ih s' hn
    | inr y =>
     obtain rfl:=Option.some.inj hn
     simp only [eN]
     cases ho:out y with
     | mk ex s' =>
      rw [ho] at h2
      cases ex with
      | normal=>exact h2
      | exit id=>exact h2
      | ret=>exact h2
noncomputable def aJf (T:vT) (c:aT) (k:Ex→St→Option β):Ex × St→Option β
 | (.normal,s)=>eG T (.loop c) s k
 | (e,s)=>k e s
theorem aBC {S X:Type} {step:S→Option (S ⊕ X)} {c:aT} {k:Ex→St→Option β} (enc:S→St) (out:X→Ex × St)
  (h:∀ s,eG T c (enc s) (fun e s'=>some (e,s')) = eN enc out (step s)) (s:S) :
  eG T (.loop c) (enc s) k = (eZ step s).bind fun x=>aJf T c k (out x):=by
 unfold eG
 rw [aB3 enc out (fun s=>by
  have:=h s
  unfold eG at this
  rw [← this]
  cases ev T c (enc s) <;> rfl) s]
 cases eZ step s with
 | none=>rfl
 | some x =>
  simp only [Option.bind_some]
  cases out x with
  | mk e s'=>cases e <;> rfl
end
section
variable {β:Type} {T:vT} {fr:List (Nat × V)} {bl:List (Nat × Option aL)}
def C0 (fr:List (Nat × V)):List Nat→(List V→Option β)→Option β
 | [],k=>k []
 | t :: l,k=>qN fr t fun v=>C0 fr l fun vs=>k (v :: vs)
theorem Z3 (l:List Nat) (k:List V→Option β):C0 fr l k = k (l.map (lk fr .any)):=by
 induction l generalizing k with
 | nil=>rfl
 | cons x l ih=>simp only [C0,qN,ih,List.map_cons]
theorem VZ (k:List V→Option β):C0 fr [] k = k []:=rfl
theorem SA (t:Nat) (l:List Nat) (k:List V→Option β):C0 fr (t :: l) k = qN fr t fun v=>C0 fr l fun vs=>k (v :: vs):=rfl
def aKJ (args:List dL) (id:Nat) (slots:List Nat) (fr:List (Nat × V)) (bl:List (Nat × Option aL)) (k:List (Nat × V)→List (Nat × Option aL)→Option β):Option β :=
 dK bl id fun b=>jR b (C0 fr slots fun cs=>GI fr args fun vs=>k (vP 0 vs) ((id,some (.outer cs)) :: bl))
def inK (args:List dL) (id:Nat) (slots:List Nat) (s:St) (k:List (Nat × V)→List (Nat × Option aL)→Option β):Option β:=aKJ args id slots s.fr s.bl k
theorem aJA (args:List dL) (id:Nat) (slots:List Nat) (k:List (Nat × V)→List (Nat × Option aL)→Option β):inK args id slots ⟨fr,bl⟩ k = dK bl id fun b=>jR b (C0 fr slots fun cs=>GI fr args fun vs=>k (vP 0 vs) ((id,some (.outer cs)) :: bl)):=rfl
theorem aBl (i:Nat):vP i [] = []:=rfl
theorem VB (i:Nat) (v:V) (l:List V):vP i (v :: l) = (i,v) :: vP (i + 1) l:=rfl
theorem aGV (args:List dL) (id:Nat) (slots:List Nat) (k:St→Option β):(OG args id slots ⟨fr,bl⟩).bind k = inK args id slots ⟨fr,bl⟩ fun fr' bl'=>k ⟨fr',bl'⟩:=by
 unfold OG inK aKJ dK jR
 rw [aFc]
 cases hb:lk bl none id with
 | some b=>rfl
 | none =>
  simp only [Option.isNone_none,if_true,Option.bind_some,Z3,SD]
  rfl
def ND (fr:List (Nat × V)) (bl:List (Nat × Option aL)):List nF→(List V→Option β)→Option β
 | [],k=>k []
 | .tmp t :: r,k=>qN fr t fun v=>ND fr bl r fun l=>k (v :: l)
 | .cell t size isAgg :: r,k=>qN fr t fun p=>xP size isAgg p bl fun v=>ND fr bl r fun l=>k (v :: l)
theorem aG4 (res:List nF):∀ (k:List V→Option β),ND fr bl res k = (bB (rM ⟨fr,bl⟩) res).bind k:=by
 induction res with
 | nil=>intro k; rfl
 | cons r res ih =>
  intro k
  cases r with
  | tmp t =>
   simp only [ND,qN,ih,bB,rM,FK]
   cases bB (rM ⟨fr,bl⟩) res <;> rfl
  | cell t size isAgg =>
   simp only [ND,qN,L7,ih,bB,rM,C5,FK,FU]
   cases GJ size isAgg (lk fr .any t) (lk bl none) with
   | none=>rfl
   | some q =>
    obtain ⟨v,wr⟩:=q
    simp only [Option.bind_some]
    cases bB (rM ⟨fr,bl⟩) res <;> rfl
theorem aCx (k:List V→Option β):ND fr bl [] k = k []:=rfl
theorem aKf (t:Nat) (r:List nF) (k:List V→Option β):ND fr bl (.tmp t :: r) k = qN fr t fun v=>ND fr bl r fun l=>k (v :: l):=rfl
def O8 (dst:Option Nat) (slots:List Nat) (cs vs:List V) (k:List (Nat × V)→Option β):Option β :=
 match vs with
 | [v]=>k (J1 dst v ++ slots.zip cs)
 | vs=>if vs.all V.noTup = true then k (J1 dst (.tup vs) ++ slots.zip cs) else none
theorem aBJ (dst:Option Nat) (slots:List Nat) (cs:List V) (v:V) (k:List (Nat × V)→Option β):O8 dst slots cs [v] k = k (J1 dst v ++ slots.zip cs):=rfl
theorem aAC (dst:Option Nat) (slots:List Nat) (cs:List V) (k:List (Nat × V)→Option β):O8 dst slots cs [] k = k (J1 dst (.tup []) ++ slots.zip cs):=rfl
theorem LQ (dst:Option Nat) (slots:List Nat) (cs:List V) (v u:V) (l:List V) (k:List (Nat × V)→Option β):O8 dst slots cs (v :: u :: l) k = if (v :: u :: l).all V.noTup = true then k (J1 dst (.tup (v :: u :: l)) ++ slots.zip cs) else none:=rfl
theorem aBr (d:Nat) (v:V) (l:List (Nat × V)):J1 (some d) v ++ l = (d,v) :: l:=rfl
theorem aE1:([]:List Nat).zip ([]:List V) = []:=rfl
theorem Z5 (t:Nat) (v:V) (l:List Nat) (r:List V):(t :: l).zip (v :: r) = (t,v) :: l.zip r:=rfl
def RA (b:Option aL) (k:List V→Option β):Option β:=match b with
 | some (.outer cs)=>k cs
 | _=>none
theorem aEv (cs:List V) (k:List V→Option β):RA (some (.outer cs)) k = k cs:=rfl
def aDs (dst:Option Nat) (res:List nF) (id:Nat) (slots:List Nat) (fr:List (Nat × V)) (bl:List (Nat × Option aL)) (k:List (Nat × V)→List (Nat × Option aL)→Option β):Option β :=
 dK bl id fun b=>RA b fun cs=>ND fr bl res fun vs=>O8 dst slots cs vs fun fr'=>k fr' ((id,none) :: bl)
theorem aHQ (dst:Option Nat) (res:List nF) (id:Nat) (slots:List Nat) (k:List (Nat × V)→List (Nat × Option aL)→Option β):aDs dst res id slots fr bl k = dK bl id fun b=>RA b fun cs=>ND fr bl res fun vs=>O8 dst slots cs vs fun fr'=>k fr' ((id,none) :: bl):=rfl
theorem RQ (dst:Option Nat) (res:List nF) (id:Nat) (slots:List Nat) (k:St→Option β):(pT dst res id slots ⟨fr,bl⟩).bind k = aDs dst res id slots fr bl fun fr' bl'=>k ⟨fr',bl'⟩:=by
 unfold pT aDs dK
 rw [aFc]
 cases hb:lk bl none id with
 | none=>cases bB (rM ⟨fr,bl⟩) res <;> rfl
 | some b =>
  cases b with
  | outer cs =>
   simp only [RA,aG4]
   cases bB (rM ⟨fr,bl⟩) res with
   | none=>rfl
   | some vs =>
    simp only [Option.bind_some]
    cases vs with
    | nil=>rfl
    | cons v vs=>cases vs with
     | nil=>rfl
     | cons u vs =>
      rw [LQ]
      show (if (v :: u :: vs).all V.noTup = true then some _ else none).bind k = _
      split <;> rfl
  | _=>cases bB (rM ⟨fr,bl⟩) res <;> rfl
def P7 (dst:Option Nat) (res:List nF) (id:Nat) (slots:List Nat) (k:Ex→St→Option β):Ex→St→Option β
 | .normal,s=>(pT dst res id slots s).bind fun s4=>k .normal s4
 | .ret,s=>(pT dst res id slots s).bind fun s4=>k .normal s4
 | .exit _,_=>none
theorem aE8 (dst:Option Nat) (res:List nF) (id:Nat) (slots:List Nat) (k:Ex→St→Option β):P7 dst res id slots k .normal ⟨fr,bl⟩ = aDs dst res id slots fr bl fun fr' bl'=>k .normal ⟨fr',bl'⟩:=RQ dst res id slots _
theorem aFt (dst:Option Nat) (res:List nF) (id:Nat) (slots:List Nat) (k:Ex→St→Option β):P7 dst res id slots k .ret ⟨fr,bl⟩ = aDs dst res id slots fr bl fun fr' bl'=>k .normal ⟨fr',bl'⟩:=RQ dst res id slots _
theorem aIE {k:Ex→St→Option β} (ops:List bL) (args:List dL) (dst:Option Nat) (f:Nat) (body:aT) (res:List nF) (id:Nat) (slots:List Nat) :
  eG T (.inl ops args dst f body res id slots) ⟨fr,bl⟩ k = tY T ops ⟨fr,bl⟩ fun s1=>inK args id slots s1 fun fr' bl'=>eG T body ⟨fr',bl'⟩ (P7 dst res id slots k):=by
 rw [aIn]
 congr 1
 funext s1
 refine Eq.trans ?_ (aGV (fr:=s1.fr) (bl:=s1.bl) args id slots fun s=>eG T body s (P7 dst res id slots k))
 congr 1
 funext s2
 congr 1
 funext ex s3
 cases ex <;> rfl
def FN (keep:List Nat) (bl:List (Nat × Option aL)):List V→(List V→Option β)→Option β
 | [],k=>k []
 | v :: cs,k=>wJ keep bl v fun v'=>FN keep bl cs fun l=>k (v' :: l)
theorem aA4 (keep:List Nat) (cs:List V):∀ (k:List V→Option β),FN keep bl cs k = k (cs.map (E7 keep (lk bl none))):=by
 induction cs with
 | nil=>intro k; rfl
 | cons v cs ih=>intro k; simp only [FN,wJ,ih,List.map_cons]
theorem W8 (keep:List Nat) (k:List V→Option β):FN keep bl [] k = k []:=rfl
theorem R5 (keep:List Nat) (v:V) (cs:List V) (k:List V→Option β):FN keep bl (v :: cs) k = wJ keep bl v fun v'=>FN keep bl cs fun l=>k (v' :: l):=rfl
theorem P1 (keep:List Nat) (cs:List V) (k:Option aL→Option β):BJ keep bl (some (.outer cs)) k = FN keep bl cs fun l=>k (some (.outer l)):=by rw [aA4]; rfl
end
section
variable {β:Type} {T:vT} {d:Nat} {fr:List (Nat × V)} {bl:List (Nat × Option aL)} {k:V→Option β} {kw:V→List (Nat × Option aL)→Option β}
noncomputable def w9 (T:vT) (d:Nat) (bl:List (Nat × Option aL)) (f:Nat) (ds:List D) (k:V→Option β) (kw:V→List (Nat × Option aL)→Option β):Option β:=match call T f ds with
 | some (.own x es rs)=>if EA x rs = true then AS (oU d (lk bl none) [] (.own x es rs)) k kw else none
 | _=>none
theorem Z8 (f:Nat) (args:List dL):uH T d (.calln f args) fr bl k kw = I3 fr bl args fun ds _=>w9 T d bl f ds k kw:=by
 rw [lF,S2]
 simp only [eQ]
 cases bB (fun x=>jS (lk bl none) (cV (lk fr .any) x)) args with
 | none=>rfl
 | some ds =>
  simp only [Option.bind_some,w9]
  cases call T f ds with
  | none=>rfl
  | some y =>
   cases y with
   | own x es rs=>simp only; split <;> rfl
   | _=>rfl
theorem sK {x:D} {rs:List (List (List D))} (h1:YZ x = true) (h2:rs.all o5 = true):EA x rs = true:=by simp only [EA,h1,h2,Bool.and_self]
theorem wT {r:List (List D)} {rs:List (List (List D))} (h1:o5 r = true) (h2:rs.all o5 = true):(r :: rs).all o5 = true:=by simp only [List.all_cons,h1,h2,Bool.and_self]
theorem uV {α:Type} {f:Nat} {ds:List D} {o:Option α} {y:α→D} {p:Nat × Nat} {es:List (Nat × Nat)} {r:α→List (List D)} {rs:α→List (List (List D))} (h:call T f ds = o.map fun x=>.own (y x) (p :: es) (r x :: rs x)) (hn:∀ x,EA (y x) (r x :: rs x) = true) :
  w9 T d bl f ds k kw = o.bind fun x=>TX bl (gU d 0 (p :: es) (r x :: rs x)) (kw (thaw d (y x)) (gU d 0 (p :: es) (r x :: rs x))):=by
 unfold w9
 rw [h]
 cases o with
 | none=>rfl
 | some x =>
  simp only [Option.map_some,Option.bind_some,oU,MA,hn x,if_true,List.append_nil]
  split
  ·obtain ⟨e,s⟩:=p; rfl
  ·rfl
end
end Vm
end Go.Proofs.Ytiimibimkpimbaa
set_option linter.unusedVariables false
set_option linter.unusedSimpArgs false
namespace Go.Proofs.Ytiimibimkpimbaa
namespace Vm
open Go.RowKit
section
variable {β:Type} {T:vT} {d:Nat} {fr:List (Nat × V)} {bl:List (Nat × Option aL)} {k:V→Option β} {kw:V→List (Nat × Option aL)→Option β}
end
end Vm
end Go.Proofs.Ytiimibimkpimbaa
