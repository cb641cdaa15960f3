/- The small machine. -/
import Derived.Test.YtoefdnkjcfoccaaDoorVmE
namespace Go.Proofs.YtoefdnkjcfoccaaDoor
section
theorem zA.{u} {α:Type u} {a:α} {l:List α}:(a::l).length = l.length + 1:=rfl
theorem zB.{u} {α:Type u}:([]:List α).length = 0:=rfl
theorem zC:(!true) = false:=rfl
theorem zD:(!false) = true:=rfl
theorem zE.{u} {α:Type u} {n:Nat} {a:α}:List.replicate (n + 1) a = a::List.replicate n a:=rfl
theorem zF.{u} {α:Type u} {a:α}:List.replicate 0 a = []:=rfl
theorem zG.{u,v} {α:Type u} {β:Type v} (a:α) (f:α->Option β):(some a).bind f = f a:=rfl
theorem zH.{u,v} {α:Type u} {β:Type v} (a:α) (f:α->β):(some a).map f = some (f a):=rfl
theorem zI.{u,v} {α:Type u} {β:Type v} (f:α->β):(none:Option α).map f = none:=rfl
theorem zJ.{u,v,w} {α:Type u} {β:Type v} {γ:Sort w} (f:α->γ) (g:β->γ) (x:α):Sum.elim f g (Sum.inl x) = f x:=rfl
theorem zK.{u,v,w} {α:Type u} {β:Type v} {γ:Sort w} (f:α->γ) (g:β->γ) (x:β):Sum.elim f g (Sum.inr x) = g x:=rfl
theorem zL.{u,v,w} {α:Type u} {β:Type v} {γ:Type w} (x:Option α) (f:α->Option β) (g:β->Option γ):(x.bind f).bind g = x.bind fun y=>(f y).bind g:=Option.bind_assoc x f g
theorem zM.{u} {α:Type u} [BEq α] [ReflBEq α] (a:α):(a == a) = true:=beq_self_eq_true a
theorem zN:(¬False) = True:=not_false_eq_true
namespace Vm
open Go.RowKit
section
variable {β:Type} {T:wF} {d:Nat} {fr:List (Nat × V)} {bl:List (Nat × Option aO)} {k:V->Option β} {kw:V->List (Nat × Option aO)->Option β}
def zQ (bl:List (Nat × Option aO)):List V->(List D->List (Nat × Option aO)->Option β)->Option β
 | [],k=>k [] []
 | v :: cs,k=>(iQ (lk bl none) v).bind fun x=>zQ bl cs fun ds f=>k (x :: ds) (CP (lk bl none) v ++ f)
theorem O5 (cs:List V) (k:List D->List (Nat × Option aO)->Option β):zQ bl cs k = (aT (iQ (lk bl none)) cs).bind fun ds=>k ds (cs.flatMap (CP (lk bl none))):=by
 induction cs generalizing k with
 | nil=>rfl
 | cons v cs ih =>
  simp only [zQ,aT,ih,ì]
  cases iQ (lk bl none) v with
  | none=>rfl
  | some x=>cases aT (iQ (lk bl none)) cs <;> rfl
def T3 (v:V) (bl:List (Nat × Option aO)) (k:D->List (Nat × Option aO)->Option β):Option β:=(iQ (lk bl none) v).bind fun x=>k x (CP (lk bl none) v)
theorem aTI (x:D) (k:D->List (Nat × Option aO)->Option β):T3 (.d x) bl k = k x []:=rfl
theorem aP3 (k:D->List (Nat × Option aO)->Option β):T3 .nil bl k = k (.sl []) []:=rfl
def d1B (id ver:Nat) (b:Option aO) (k:D->List (Nat × Option aO)->Option β):Option β:=match b with
 | some (.rows v _ _ rows)=>if ver = v then k (.sl rows) [(id,some (.froz v rows))] else none
 | some (.froz v rows)=>if ver = v then k (.sl rows) [] else none
 | _=>none
theorem aNK (id ver:Nat) (k:D->List (Nat × Option aO)->Option β):T3 (.own id ver) bl k = bL bl id fun b=>d1B id ver b k:=by
 unfold T3 bL d1B
 simp only [iQ,CP,nF,GC]
 generalize lk bl none id = b
 cases b with
 | none=>rfl
 | some b=>cases b with
  | rows v e s rows=>simp only; by_cases h:ver = v <;> simp [h]
  | froz v rows=>simp only; by_cases h:ver = v <;> simp [h]
  | _=>rfl
theorem aJ7 (id v e s:Nat) (rows:List (List D)) (k:D->List (Nat × Option aO)->Option β):d1B id v (some (.rows v e s rows)) k = k (.sl rows) [(id,some (.froz v rows))]:=Â rfl
theorem aLG (id v:Nat) (rows:List (List D)) (k:D->List (Nat × Option aO)->Option β):d1B id v (some (.froz v rows)) k = k (.sl rows) []:=Â rfl
def vF (bl:List (Nat × Option aO)):List V->(List D->List (Nat × Option aO)->Option β)->Option β
 | [],k=>k [] []
 | v :: cs,k=>(nF (lk bl none) v).bind fun x=>vF bl cs fun ds f=>k (x :: ds) (GC (lk bl none) v ++ f)
theorem XE (cs:List V) (k:List D->List (Nat × Option aO)->Option β):vF bl cs k = (aT (nF (lk bl none)) cs).bind fun ds=>k ds (cs.flatMap (GC (lk bl none))):=by
 induction cs generalizing k with
 | nil=>rfl
 | cons v cs ih =>
  simp only [vF,aT,ih,ì]
  cases nF (lk bl none) v with
  | none=>rfl
  | some x=>cases aT (nF (lk bl none)) cs <;> rfl
theorem aBG (k:List D->List (Nat × Option aO)->Option β):vF bl [] k = k [] []:=rfl
theorem aIR (x:D) (cs:List V) (k:List D->List (Nat × Option aO)->Option β):vF bl (.d x :: cs) k = vF bl cs fun ds f=>k (x :: ds) f:=rfl
theorem aM0 (cs:List V) (k:List D->List (Nat × Option aO)->Option β):vF bl (.nil :: cs) k = vF bl cs fun ds f=>k (.sl [] :: ds) f:=rfl
theorem aDc (id ver:Nat) (cs:List V) (k:List D->List (Nat × Option aO)->Option β):vF bl (.own id ver :: cs) k = T3 (.own id ver) bl fun x g=>vF bl cs fun ds f=>k (x :: ds) (g ++ f):=rfl
theorem EZ (ds:List D) (k:List D->List (Nat × Option aO)->Option β):vF bl (aE ds) k = k ds []:=by
 have:∀ (ds:List D) (k:List D->List (Nat × Option aO)->Option β),vF bl (aE ds) k = k ds []:=by
  intro ds
  induction ds with
  | nil=>intro k; rfl
  | cons x ds ih=>intro k; show vF bl (aE ds) _ = _; rw [ih]; rfl
 exact this ds k
def d1P (id off:Nat) (b:Option aO) (bl:List (Nat × Option aO)) (k:D->List (Nat × Option aO)->Option β):Option β:=match b with
 | some (.box cs)=>vF bl cs fun ds f=>k (.ptr ds off) ((id,some (.fbox ds)) :: f)
 | some (.fbox ds)=>k (.ptr ds off) []
 | _=>none
theorem aQF (id off:Nat) (k:D->List (Nat × Option aO)->Option β):T3 (.ptr id off) bl k = bL bl id fun b=>d1P id off b bl k:=by
 unfold T3 bL d1P
 simp only [iQ,CP]
 cases lk bl none id with
 | none=>rfl
 | some b=>cases b with
  | box cs =>
   simp only [XE]
   cases aT (nF (lk bl none)) cs <;> rfl
  | _=>rfl
theorem aOv (id off:Nat) (c:V) (cs:List V) (k:D->List (Nat × Option aO)->Option β):d1P id off (some (.box (c :: cs))) bl k = vF bl (c :: cs) fun ds f=>k (.ptr ds off) ((id,some (.fbox ds)) :: f):=rfl
theorem aCj (id off:Nat) (ds:List D) (k:D->List (Nat × Option aO)->Option β):d1P id off (some (.box (aE ds))) bl k = k (.ptr ds off) [(id,some (.fbox ds))]:=by
 show vF bl (aE ds) _ = _
 rw [EZ]
theorem aLi (id off:Nat) (ds:List D) (k:D->List (Nat × Option aO)->Option β):d1P id off (some (.fbox ds)) bl k = k (.ptr ds off) []:=rfl
theorem aIt (id off:Nat) (cs:List V) (k:List D->List (Nat × Option aO)->Option β):zQ bl (.ptr id off :: cs) k = T3 (.ptr id off) bl fun x g=>zQ bl cs fun ds f=>k (x :: ds) (g ++ f):=rfl
theorem aGi (k:List D->List (Nat × Option aO)->Option β):zQ bl [] k = k [] []:=rfl
theorem aPr (x:D) (cs:List V) (k:List D->List (Nat × Option aO)->Option β):zQ bl (.d x :: cs) k = zQ bl cs fun ds f=>k (x :: ds) f:=rfl
theorem aNV (cs:List V) (k:List D->List (Nat × Option aO)->Option β):zQ bl (.nil :: cs) k = zQ bl cs fun ds f=>k (.sl [] :: ds) f:=rfl
theorem aGQ (id ver:Nat) (cs:List V) (k:List D->List (Nat × Option aO)->Option β):zQ bl (.own id ver :: cs) k = T3 (.own id ver) bl fun x g=>zQ bl cs fun ds f=>k (x :: ds) (g ++ f):=rfl
theorem G2 (ds:List D) (k:List D->List (Nat × Option aO)->Option β):zQ bl (aE ds) k = k ds []:=by
 have:∀ (ds:List D) (k:List D->List (Nat × Option aO)->Option β),zQ bl (aE ds) k = k ds []:=by
  intro ds
  induction ds with
  | nil=>intro k; rfl
  | cons x ds ih=>intro k; show zQ bl (aE ds) _ = _; rw [ih]; rfl
 exact this ds k
def DA (v:V) (bl:List (Nat × Option aO)) (k:D->List (Nat × Option aO)->Option β):Option β:=(iX (lk bl none) v).bind fun x=>k x (yG (lk bl none) v)
theorem aS8 (x:D) (k:D->List (Nat × Option aO)->Option β):DA (.d x) bl k = k x []:=rfl
theorem aJ4 (k:D->List (Nat × Option aO)->Option β):DA .nil bl k = k (.sl []) []:=rfl
theorem aM3 (id ver:Nat) (k:D->List (Nat × Option aO)->Option β):DA (.own id ver) bl k = T3 (.own id ver) bl k:=rfl
theorem aJx (id off:Nat) (k:D->List (Nat × Option aO)->Option β):DA (.ptr id off) bl k = T3 (.ptr id off) bl k:=rfl
theorem aAK (cs:List V) (k:D->List (Nat × Option aO)->Option β):DA (.agg cs) bl k = zQ bl cs fun ds f=>k (.agg ds) f:=by
 rw [O5]
 show ((aT (iQ (lk bl none)) cs).map D.agg).bind _ = _
 cases aT (iQ (lk bl none)) cs <;> rfl
theorem aGk (ds:List D) (k:D->List (Nat × Option aO)->Option β):DA (b9 ds) bl k = k (.agg ds) []:=by
 show DA (.agg (aE ds)) bl k = _
 rw [aAK,G2]
theorem aST (x:D) (k:List D->List (Nat × Option aO)->Option β):ON (.d x) bl k = k [x] []:=rfl
theorem aBB (cs:List V) (k:List D->List (Nat × Option aO)->Option β):ON (.agg cs) bl k = zQ bl cs k:=by
 rw [O5]
 show (match aT (iQ (lk bl none)) cs with | some row=>k row (cs.flatMap (CP (lk bl none))) | none=>none) = _
 cases aT (iQ (lk bl none)) cs <;> rfl
theorem aHE (ds:List D) (k:List D->List (Nat × Option aO)->Option β):ON (b9 ds) bl k = k ds []:=by
 show ON (.agg (aE ds)) bl k = _
 rw [aBB,G2]
theorem aK9 (k:List D->List (Nat × Option aO)->Option β):ON .nil bl k = k [.sl []] []:=rfl
theorem aJu (id ver:Nat) (k:List D->List (Nat × Option aO)->Option β):ON (.own id ver) bl k = T3 (.own id ver) bl fun x f=>k [x] f:=by
 unfold ON T3
 show (match aT (iQ (lk bl none)) [.own id ver] with | some row=>k row (CP (lk bl none) (.own id ver)) | none=>none) = _
 simp only [aT]
 cases iQ (lk bl none) (.own id ver) <;> rfl
def aAQ (rs:List (List D)) (i:Nat) (row:List D) (k:List (List D)->Option β):Option β:=if i < rs.length then k (rs.set i row) else none
theorem aSz (r:List D) (rs:List (List D)) (row:List D) (k:List (List D)->Option β):aAQ (r :: rs) 0 row k = k (row :: rs):=by simp [aAQ]
theorem aRK (r:List D) (rs:List (List D)) (i:Nat) (row:List D) (k:List (List D)->Option β):aAQ (r :: rs) (i + 1) row k = aAQ rs i row fun l=>k (r :: l):=by
 unfold aAQ
 simp only [Ø,List.set_cons_succ]
 by_cases h:i < rs.length
 ·rw [Â h,Â (by omega)]
 ·rw [Ã h,Ã (by omega)]
def bsF (fr:List (Nat × V)) (bl:List (Nat × Option aO)) (size:Nat) (rs:List (List D)):List (Nat × bO)->List (Nat × Option aO)->(List (List D)->List (Nat × Option aO)->Option β)->Option β
 | [],wr,k=>k rs wr
 | (i,x) :: r,wr,k=>bR fr x fun v=>ON v bl fun row f=>kA row size (aAQ rs i row fun rs'=>bsF fr bl size rs' r (wr ++ f) k)
theorem aQz (size:Nat) (rs:List (List D)) (wr:List (Nat × Option aO)) (k:List (List D)->List (Nat × Option aO)->Option β):bsF fr bl size rs [] wr k = k rs wr:=rfl
theorem aLH (size:Nat) (rs:List (List D)) (i:Nat) (x:bO) (r:List (Nat × bO)) (wr:List (Nat × Option aO)) (k:List (List D)->List (Nat × Option aO)->Option β):bsF fr bl size rs ((i,x) :: r) wr k = bR fr x fun v=>ON v bl fun row f=>kA row size (aAQ rs i row fun rs'=>bsF fr bl size rs' r (wr ++ f) k):=rfl
theorem aRr (size:Nat) (parts:List (Nat × bO)):∀ (rs:List (List D)) (wr:List (Nat × Option aO)) (k:List (List D)->List (Nat × Option aO)->Option β),bsF fr bl size rs parts wr k = (lU (lk bl none) size rs (parts.map fun p=>(p.1,bN (lk fr .any) p.2))).bind fun rs'=>k rs' (wr ++ parts.flatMap fun p=>yG (lk bl none) (bN (lk fr .any) p.2)):=by
 induction parts with
 | nil=>intro rs wr k; simp [bsF,lU]
 | cons p r ih =>
  intro rs wr k
  obtain ⟨i,x⟩:=p
  simp only [bsF,bR,ON,á,lU,ì]
  cases aT (iQ (lk bl none)) (bN (lk fr .any) x).cells with
  | none=>rfl
  | some row =>
   simp only [kA,aAQ]
   by_cases h1:row.length = size
   ·by_cases h2:i < rs.length
    ·rw [Â h1,Â h2,Â ⟨h1,h2⟩,ih,ç]
    ·rw [Â h1,Ã h2,Ã (fun q=>h2 q.2)]; rfl
   ·rw [Ã h1,Ã (fun q=>h1 q.1)]; rfl
theorem TD (e size n:Nat) (z:List D) (parts:List (Nat × bO)):qF T d (.buildSlice e size z n parts) fr bl k kw = bL bl d fun b=>gA b (bsF fr bl size (List.replicate n z) parts [] fun rows wr=>VJ e rows fun rows=>kw (.own d 0) ((d,some (.rows 0 e size rows)) :: wr)):=by
 rw [jR]
 unfold bL gA VJ
 simp only [cE,aRr,Ī]
 cases lk bl none d with
 | some b=>rfl
 | none =>
  simp only
  have e1:(parts.map fun x=>match x with | (i,x)=>(i,bN (lk fr .any) x)) = parts.map fun p=>(p.1,bN (lk fr .any) p.2):=rfl
  have e2:(parts.flatMap fun x=>match x with | (_,x)=>yG (lk bl none) (bN (lk fr .any) x)) = parts.flatMap fun p=>yG (lk bl none) (bN (lk fr .any) p.2):=rfl
  rw [e1,e2]
  cases lU (lk bl none) size (List.replicate n z) (parts.map fun p=>(p.1,bN (lk fr .any) p.2)) <;> rfl
theorem U6 {α:Type} (e size bytes:Nat) (z:List D) (c:α->List D) (x:α) (hz:z = c x) (l cp:bO):qF T d (.makeSlice e size bytes z l cp) fr bl k kw = bL bl d fun b=>gA b (bR fr l fun a=>bR fr cp fun b=>match a,b with
   | .d (.int _ n),.d (.int _ m)=>if 0 <= n ∧ n <= m ∧ (bytes:Int) * m <= 281474976710656 ∧ m <= 9223372036854775807 then kw (.own d 0) [(d,some (.rows 0 e size (cM c (List.replicate n.toNat x))))] else none
   | _,_=>none):=by
 subst hz
 rw [jR]
 unfold bL gA bR
 simp only [cE,YD]
 generalize bN (lk fr .any) l = a
 generalize bN (lk fr .any) cp = b
 cases lk bl none d with
 | some b=>rfl
 | none =>
  simp only
  split
  ·rename_i n _ m
   simp only
   by_cases h:0 <= n ∧ n <= m ∧ (bytes:Int) * m <= 281474976710656 ∧ m <= 9223372036854775807
   ·rw [Â h,Â h]; rfl
   ·rw [Ã h,Ã h]; rfl
  ·rename_i h
   split
   ·rename_i n _ m
    exact absurd rfl (h _ _ _ _ rfl)
   ·rfl
def RK (fr:List (Nat × V)) (bl:List (Nat × Option aO)):List bO->(List D->List (Nat × Option aO)->Option β)->Option β
 | [],k=>k [] []
 | x :: l,k=>bR fr x fun v=>DA v bl fun y f=>RK fr bl l fun ds g=>k (y :: ds) (f ++ g)
theorem aFt (k:List D->List (Nat × Option aO)->Option β):RK fr bl [] k = k [] []:=rfl
theorem aDl (x:bO) (l:List bO) (k:List D->List (Nat × Option aO)->Option β):RK fr bl (x :: l) k = bR fr x fun v=>DA v bl fun y f=>RK fr bl l fun ds g=>k (y :: ds) (f ++ g):=rfl
theorem aA0 (l:List bO) (k:List D->List (Nat × Option aO)->Option β):RK fr bl l k = (aT (fun x=>iX (lk bl none) (bN (lk fr .any) x)) l).bind fun ds=>k ds (l.flatMap fun x=>yG (lk bl none) (bN (lk fr .any) x)):=by
 induction l generalizing k with
 | nil=>rfl
 | cons x l ih =>
  simp only [RK,bR,DA,aT,ih,ì]
  cases iX (lk bl none) (bN (lk fr .any) x) with
  | none=>rfl
  | some y=>cases aT (fun x=>iX (lk bl none) (bN (lk fr .any) x)) l <;> rfl
def fzK (fz:List (Nat × Option aO)) (v:V) (k:V->Option β) (kw:V->List (Nat × Option aO)->Option β):Option β:=match fz with
 | []=>k v
 | p :: w=>kw v (p :: w)
theorem aO8 (v:V):fzK [] v k kw = k v:=rfl
theorem aR1 (l:List (Nat × Option aO)) (v:V):fzK ([] ++ l) v k kw = fzK l v k kw:=rfl
theorem aSF (p:Nat × Option aO) (w l:List (Nat × Option aO)) (v:V):fzK ((p :: w) ++ l) v k kw = kw v ((p :: w) ++ l):=rfl
theorem aJk (p:Nat × Option aO) (w:List (Nat × Option aO)) (v:V):fzK (p :: w) v k kw = kw v (p :: w):=rfl
noncomputable def IX (T:wF) (d:Nat) (bl:List (Nat × Option aO)) (f:Nat) (ds:List D) (fz:List (Nat × Option aO)) (k:V->Option β) (kw:V->List (Nat × Option aO)->Option β):Option β:=match call T f ds with
 | none=>none
 | some r=>GD (qJ d (lk bl none) fz r) k kw
theorem aMb (f:Nat) (args:List bO):qF T d (.call f args) fr bl k kw = RK fr bl args fun ds fz=>IX T d bl f ds fz k kw:=by
 rw [jR,aA0]
 simp only [cE]
 cases aT (fun x=>iX (lk bl none) (bN (lk fr .any) x)) args with
 | none=>rfl
 | some ds =>
  simp only [À,IX]
  cases call T f ds <;> rfl
def D.calm:D->Bool
 | .own _ _ _=>false
 | _=>true
theorem aEQ {x:D} (h:x.calm = true):∀ y es rs,x ≠ .own y es rs:=fun y es rs e=>by rw [e] at h; cases h
theorem aHV {x:D} (h:JR x = true):x.calm = true:=by cases x <;> first | rfl | cases h
theorem aDg {α:Type} {f:Nat} {ds:List D} {o:Option α} {enc:α->D} (h:call T f ds = o.map enc) (hf:∀ x,JR (enc x) = true) (fz:List (Nat × Option aO)):IX T d bl f ds fz k kw = o.bind fun x=>k (toV (enc x)):=by
 unfold IX
 rw [h]
 cases o with
 | none=>rfl
 | some x=>simp only [Ù,À]; rw [G3 (aEQ (aHV (hf x))),Â (hf x)]; rfl
theorem aCT {α:Type} {f:Nat} {ds:List D} {o:Option α} {enc:α->D} (h:call T f ds = o.map enc) (hf:∀ x,JR (enc x) = false) (hc:∀ x,(enc x).calm = true) (fz:List (Nat × Option aO)):IX T d bl f ds fz k kw = o.bind fun x=>fzK fz (toV (enc x)) k kw:=by
 unfold IX
 rw [h]
 cases o with
 | none=>rfl
 | some x=>simp only [Ù,À]; rw [G3 (aEQ (hc x)),Ã (by rw [hf x]; decide)]; cases fz <;> rfl
def aET (bl:List (Nat × Option aO)):List (Nat × Option aO)->Option β->Option β
 | [],x=>x
 | (i,_) :: l,x=>bL bl i fun b=>gA b (aET bl l x)
theorem aBp (bl:List (Nat × Option aO)) (x:Option β):∀ (l:List (Nat × Option aO)),aET bl l x = if OC (lk bl none) l = true then x else none
 | []=>rfl
 | (i,b) :: l=>by
  cases h:lk bl none i <;> simp [aET,OC,bL,gA,aBp bl x l,h]
def SW (fr:List (Nat × V)) (bl:List (Nat × Option aO)):List bO->(List D->List (Nat × Option aO)->Option β)->Option β
 | [],k=>k [] []
 | x :: l,k=>bR fr x fun v=>T3 v bl fun y f=>SW fr bl l fun ds g=>k (y :: ds) (f ++ g)
theorem aHT (k:List D->List (Nat × Option aO)->Option β):SW fr bl [] k = k [] []:=rfl
theorem aBQ (x:bO) (l:List bO) (k:List D->List (Nat × Option aO)->Option β):SW fr bl (x :: l) k = bR fr x fun v=>T3 v bl fun y f=>SW fr bl l fun ds g=>k (y :: ds) (f ++ g):=rfl
theorem aIX (l:List bO) (k:List D->List (Nat × Option aO)->Option β):SW fr bl l k = (aT (fun x=>iQ (lk bl none) (bN (lk fr .any) x)) l).bind fun ds=>k ds (l.flatMap fun x=>CP (lk bl none) (bN (lk fr .any) x)):=by
 induction l generalizing k with
 | nil=>rfl
 | cons x l ih =>
  simp only [SW,bR,T3,aT,ih,ì]
  cases iQ (lk bl none) (bN (lk fr .any) x) with
  | none=>rfl
  | some y=>cases aT (fun x=>iQ (lk bl none) (bN (lk fr .any) x)) l <;> rfl
theorem aMU (f:Nat) (caps:List bO):qF T d (.mkfn f caps) fr bl k kw = SW fr bl caps fun ds fz=>fzK fz (.d (.fn f ds)) k kw:=by
 rw [jR,aIX]
 simp only [cE]
 cases aT (fun x=>iQ (lk bl none) (bN (lk fr .any) x)) caps with
 | none=>rfl
 | some ds =>
  simp only [À]
  cases caps.flatMap fun x=>CP (lk bl none) (bN (lk fr .any) x) <;> rfl
def QU (fr:List (Nat × V)) (bl:List (Nat × Option aO)) (caps:List D):List bO->(List D->List (Nat × Option aO)->Option β)->Option β
 | [],k=>k caps []
 | x :: l,k=>bR fr x fun v=>DA v bl fun y f=>QU fr bl caps l fun ds g=>k (y :: ds) (f ++ g)
theorem aFI (caps:List D) (k:List D->List (Nat × Option aO)->Option β):QU fr bl caps [] k = k caps []:=rfl
theorem aCu (caps:List D) (x:bO) (l:List bO) (k:List D->List (Nat × Option aO)->Option β):QU fr bl caps (x :: l) k = bR fr x fun v=>DA v bl fun y f=>QU fr bl caps l fun ds g=>k (y :: ds) (f ++ g):=rfl
theorem aLs (caps:List D) (l:List bO) (k:List D->List (Nat × Option aO)->Option β):QU fr bl caps l k = (aT (fun x=>iX (lk bl none) (bN (lk fr .any) x)) l).bind fun ds=>k (ds ++ caps) (l.flatMap fun x=>yG (lk bl none) (bN (lk fr .any) x)):=by
 induction l generalizing k with
 | nil=>rfl
 | cons x l ih =>
  simp only [QU,bR,DA,aT,ih,ì]
  cases iX (lk bl none) (bN (lk fr .any) x) with
  | none=>rfl
  | some y=>cases aT (fun x=>iX (lk bl none) (bN (lk fr .any) x)) l <;> rfl
noncomputable def aB7 (T:wF) (d:Nat) (v:V) (args:List bO) (fr:List (Nat × V)) (bl:List (Nat × Option aO)) (k:V->Option β) (kw:V->List (Nat × Option aO)->Option β):Option β:=match v with
 | .d (.fn f caps)=>QU fr bl caps args fun ds fz=>IX T d bl f ds fz k kw
 | _=>none
theorem aJS (f:Nat) (caps:List D) (args:List bO):aB7 T d (.d (.fn f caps)) args fr bl k kw = QU fr bl caps args fun ds fz=>IX T d bl f ds fz k kw:=rfl
theorem aHp (g:bO) (args:List bO):qF T d (.callv g args) fr bl k kw = bR fr g fun v=>aB7 T d v args fr bl k kw:=by
 rw [jR]
 unfold bR
 simp only [cE]
 generalize bN (lk fr .any) g = v
 cases v with
 | d x=>cases x with
  | fn f caps =>
   simp only [aB7,aLs]
   cases aT (fun x=>iX (lk bl none) (bN (lk fr .any) x)) args with
   | none=>rfl
   | some ds =>
    simp only [À,IX]
    cases call T f (ds ++ caps) <;> rfl
  | _=>rfl
 | _=>rfl
def aSa (v:V) (i:Nat) (k:V->Option β):Option β:=match v with
 | .tup vs=>EA vs i k
 | _=>none
theorem Z9 (x:bO) (i:Nat):qF T d (.extract x i) fr bl k kw = bR fr x fun v=>aSa v i k:=by
 unfold qF bR
 simp only [cE]
 generalize bN (lk fr .any) x = v
 cases v with
 | tup vs=>simp only [aSa,OX]; cases vs[i]? <;> rfl
 | _=>rfl
theorem aR4 (vs:List V) (i:Nat):aSa (.tup vs) i k = EA vs i k:=rfl
def vX (m:xF) (fr:List (Nat × V)) (bl:List (Nat × Option aO)) (k:List (Nat × V)->List (Nat × Option aO)->Option β):Option β:=k (m.app ⟨fr,bl⟩).fr (m.app ⟨fr,bl⟩).bl
theorem aOL {k:Ex->St->Option β} (m:xF) (a:aP):bM T (.pre m a) ⟨fr,bl⟩ k = vX m fr bl fun fr' bl'=>bM T a ⟨fr',bl'⟩ k:=by
 rw [aNT]; rfl
theorem aN2 {k:Ex->St->Option β} (m:xF):aBj m k .normal ⟨fr,bl⟩ = vX m fr bl fun fr' bl'=>k .normal ⟨fr',bl'⟩:=by
 rw [aOY]; rfl
def qH (keep:List Nat) (bl:List (Nat × Option aO)) (v:V) (k:V->Option β):Option β:=k (HK keep (lk bl none) v)
def TU (keep:List Nat) (fr:List (Nat × V)) (bl:List (Nat × Option aO)):List Nat->(List (Nat × V)->Option β)->Option β
 | [],k=>k []
 | t :: r,k=>kW fr t fun v=>qH keep bl v fun v'=>TU keep fr bl r fun l=>k ((t,v') :: l)
theorem aMR (keep l:List Nat):∀ (k:List (Nat × V)->Option β),TU keep fr bl l k = k (l.map fun t=>(t,HK keep (lk bl none) (lk fr .any t))):=by
 induction l with
 | nil=>intro k; rfl
 | cons t l ih=>intro k; simp only [TU,kW,qH,ih,á]
def A5 (keep:List Nat) (bl:List (Nat × Option aO)) (b:Option aO) (k:Option aO->Option β):Option β:=k (b.bind (D8 keep (lk bl none)))
def S3 (keep:List Nat) (bl:List (Nat × Option aO)):List Nat->(List (Nat × Option aO)->Option β)->Option β
 | [],k=>k []
 | i :: r,k=>bL bl i fun b=>A5 keep bl b fun b'=>S3 keep bl r fun l=>k ((i,b') :: l)
theorem aKz (keep l:List Nat):∀ (k:List (Nat × Option aO)->Option β),S3 keep bl l k = k (l.map fun i=>(i,(lk bl none i).bind (D8 keep (lk bl none)))):=by
 induction l with
 | nil=>intro k; rfl
 | cons t l ih=>intro k; simp only [S3,bL,A5,ih,á]
theorem aG5 (keep:List Nat) (k:List (Nat × V)->Option β):TU keep fr bl [] k = k []:=rfl
theorem aBT (keep:List Nat) (t:Nat) (r:List Nat) (k:List (Nat × V)->Option β):TU keep fr bl (t :: r) k = kW fr t fun v=>qH keep bl v fun v'=>TU keep fr bl r fun l=>k ((t,v') :: l):=rfl
theorem aHR (keep:List Nat) (k:List (Nat × Option aO)->Option β):S3 keep bl [] k = k []:=rfl
theorem aCP (keep:List Nat) (i:Nat) (r:List Nat) (k:List (Nat × Option aO)->Option β):S3 keep bl (i :: r) k = bL bl i fun b=>A5 keep bl b fun b'=>S3 keep bl r fun l=>k ((i,b') :: l):=rfl
theorem aQS (live keep:List Nat) (k:List (Nat × V)->List (Nat × Option aO)->Option β):vX ⟨live,keep,[],[],[],[]⟩ fr bl k = TU keep fr bl live fun fr'=>S3 keep bl keep fun bl'=>k fr' bl':=by
 rw [aMR,aKz]; rfl
def fU (keep:List Nat) (i:Nat) (x y:Option β):Option β:=if keep.contains i = true then x else y
theorem VR (i:Nat) (x y:Option β):fU [] i x y = y:=rfl
theorem UW (i:Nat) (r:List Nat) (x y:Option β):fU (i :: r) i x y = x:=by simp [fU]
theorem SV (a i:Nat) (r:List Nat) (x y:Option β) (h:(i == a) = false):fU (a :: r) i x y = fU r i x y:=by
 unfold fU
 rw [List.contains_cons,h,Bool.false_or]
section
variable (keep:List Nat)
theorem aQv (x:D):qH keep bl (.d x) k = k (.d x):=rfl
theorem aHa:qH keep bl .nil k = k .nil:=rfl
theorem aNl:qH keep bl (.tup []) k = k (.tup []):=rfl
theorem aHw:qH keep bl .any k = k .any:=rfl
def UJ (keep:List Nat) (id off:Nat) (b:Option aO) (k:V->Option β):Option β:=match b with
 | some (.box _)=>fU keep id (k (.ptr id off)) (k .any)
 | some (.fbox ds)=>k (.d (.ptr ds off))
 | _=>k .any
theorem aCC (id off:Nat) (cs:List V):UJ keep id off (some (.box cs)) k = fU keep id (k (.ptr id off)) (k .any):=rfl
theorem ZU (id off:Nat) (ds:List D):UJ keep id off (some (.fbox ds)) k = k (.d (.ptr ds off)):=rfl
theorem aA3 (id off:Nat):UJ keep id off none k = k .any:=rfl
theorem aGq (id off:Nat):qH keep bl (.ptr id off) k = bL bl id fun b=>UJ keep id off b k:=by
 unfold qH bL UJ
 simp only [HK,QW,uI]
 generalize lk bl none id = b
 cases b with
 | none=>rfl
 | some b=>cases b with
  | box cs=>simp only [fU]; split <;> rfl
  | _=>rfl
def IQ (id ver:Nat) (b:Option aO) (k:V->Option β):Option β:=match b with
 | some (.rows v _ _ _)=>if (ver == v) = true then fU keep id (k (.own id 0)) (k .any) else k .any
 | some (.froz v rows)=>if ver = v then k (.d (.sl rows)) else k .any
 | _=>k .any
theorem aGm (id ver:Nat):qH keep bl (.own id ver) k = bL bl id fun b=>IQ keep id ver b k:=by
 unfold qH bL IQ fU
 simp only [HK,QW,uI]
 generalize lk bl none id = b
 cases b with
 | none=>rfl
 | some b=>cases b with
  | rows v e s rows=>simp only; cases (ver == v) <;> cases keep.contains id <;> rfl
  | froz v rows=>simp only; split <;> rfl
  | _=>rfl
theorem ZH (id v e s:Nat) (rows:List (List D)):IQ keep id v (some (.rows v e s rows)) k = fU keep id (k (.own id 0)) (k .any):=by simp [IQ]
theorem aDp (id ver v e s:Nat) (rows:List (List D)) (h:(ver == v) = false):IQ keep id ver (some (.rows v e s rows)) k = k .any:=by simp [IQ,h]
theorem ZE (id v:Nat) (rows:List (List D)):IQ keep id v (some (.froz v rows)) k = k (.d (.sl rows)):=Â rfl
theorem aAk (id v:Nat):IQ keep id v none k = k .any:=rfl
def QQ (id ver i off:Nat) (b:Option aO) (k:V->Option β):Option β:=match b with
 | some (.rows v _ _ _)=>if (ver == v) = true then fU keep id (k (.orow id 0 i off)) (k .any) else k .any
 | _=>k .any
theorem aDz (id ver i off:Nat):qH keep bl (.orow id ver i off) k = bL bl id fun b=>QQ keep id ver i off b k:=by
 unfold qH bL QQ fU
 simp only [HK,QW,uI]
 generalize lk bl none id = b
 cases b with
 | none=>rfl
 | some b=>cases b with
  | rows v e s rows=>simp only; cases (ver == v) <;> cases keep.contains id <;> rfl
  | _=>rfl
theorem aBe (id v i off e s:Nat) (rows:List (List D)):QQ keep id v i off (some (.rows v e s rows)) k = fU keep id (k (.orow id 0 i off)) (k .any):=by simp [QQ]
theorem aDh (id ver v i off e s:Nat) (rows:List (List D)) (h:(ver == v) = false):QQ keep id ver i off (some (.rows v e s rows)) k = k .any:=by simp [QQ,h]
def rX (keep:List Nat) (bl:List (Nat × Option aO)):List V->(List V->Option β)->Option β
 | [],k=>k []
 | v :: cs,k=>k (uI keep (lk bl none) v :: cs.map (uI keep (lk bl none)))
theorem t9 (cs:List V) (k:List V->Option β):rX keep bl cs k = k (cs.map (uI keep (lk bl none))):=by cases cs <;> rfl
theorem aB4 (k:List V->Option β):rX keep bl [] k = k []:=rfl
theorem aKj (x:D) (cs:List V) (k:List V->Option β):rX keep bl (.d x :: cs) k = rX keep bl cs fun l=>k (.d x :: l):=by simp only [t9]; rfl
theorem aKe (cs:List V) (k:List V->Option β):rX keep bl (.nil :: cs) k = rX keep bl cs fun l=>k (.nil :: l):=by simp only [t9]; rfl
theorem aCe (cs:List V) (k:List V->Option β):rX keep bl (.any :: cs) k = rX keep bl cs fun l=>k (.any :: l):=by simp only [t9]; rfl
theorem aC8 (id ver:Nat) (cs:List V) (k:List V->Option β):rX keep bl (.own id ver :: cs) k = qH keep bl (.own id ver) fun v=>rX keep bl cs fun l=>k (v :: l):=by simp only [t9]; rfl
theorem aEp (id off:Nat) (cs:List V) (k:List V->Option β):rX keep bl (.ptr id off :: cs) k = qH keep bl (.ptr id off) fun v=>rX keep bl cs fun l=>k (v :: l):=by simp only [t9]; rfl
theorem aIg (cs:List V):qH keep bl (.agg cs) k = rX keep bl cs fun l=>k (.agg l):=by rw [t9]; rfl
theorem NV (ds:List D) (b:Nat->Option aO):(aE ds).map (uI keep b) = aE ds:=by
 induction ds with
 | nil=>rfl
 | cons x ds ih=>show uI keep b (.d x) :: (aE ds).map (uI keep b) = _; rw [ih]; rfl
theorem aBS (ds:List D):qH keep bl (b9 ds) k = k (b9 ds):=by
 show k (.agg ((aE ds).map (uI keep (lk bl none)))) = _
 rw [NV]; rfl
theorem ZR (k:Option aO->Option β):A5 keep bl none k = k none:=rfl
theorem aCx (c:V) (cs:List V) (k:Option aO->Option β):A5 keep bl (some (.box (c :: cs))) k = rX keep bl (c :: cs) fun l=>k (some (.box l)):=by rw [t9]; rfl
theorem ZI (k:Option aO->Option β):A5 keep bl (some (.box [])) k = k (some (.box [])):=rfl
theorem VA (ds:List D) (k:Option aO->Option β):A5 keep bl (some (.box (aE ds))) k = k (some (.box (aE ds))):=by
 show k (some (.box ((aE ds).map (uI keep (lk bl none))))) = _
 rw [NV]
theorem aAj (v e s:Nat) (rows:List (List D)) (k:Option aO->Option β):A5 keep bl (some (.rows v e s rows)) k = k (some (.rows 0 e s rows)):=rfl
theorem ZZ (ds:List D) (k:Option aO->Option β):A5 keep bl (some (.fbox ds)) k = k none:=rfl
theorem ZM (v:Nat) (rows:List (List D)) (k:Option aO->Option β):A5 keep bl (some (.froz v rows)) k = k none:=rfl
end
def aL5 (res:List kT):Ex->St->Option D
 | .normal,s=>match aT (vD s) res with
  | none=>none
  | some [v]=>iX s.blk v
  | some vs=>toD s.blk (.tup vs)
 | .ret,s=>match aT (vD s) res with
  | none=>none
  | some [v]=>iX s.blk v
  | some vs=>toD s.blk (.tup vs)
 | .exit _,_=>none
def LI (fr:List (Nat × V)) (bl:List (Nat × Option aO)):List kT->(List D->Option D)->Option D
 | [],k=>k []
 | .tmp t :: r,k=>kW fr t fun v=>DA v bl fun x _=>LI fr bl r fun l=>k (x :: l)
 | .cell t size isAgg :: r,k=>kW fr t fun p=>BQ size isAgg p bl fun v=>DA v bl fun x _=>LI fr bl r fun l=>k (x :: l)
def OL:List D->Option D
 | [x]=>some x
 | l=>some (.tup l)
theorem S0 (size:Nat) (a:Bool) (p:V):BQ size a p bl k = (NS size a p (lk bl none)).bind fun r=>k r.1:=by
 have h:=ZN (T:=fun _=>none) (d:=0) (fr:=[]) (bl:=bl) (k:=k) (kw:=fun v _=>k v) size a (.c p)
 have e:bR [] (.c p) (fun v=>BQ size a v bl k) = BQ size a p bl k:=rfl
 rw [← e,← h,jR,ID]
 show GD (NS size a p (lk bl none)) k (fun v _=>k v) = _
 cases NS size a p (lk bl none) with
 | none=>rfl
 | some r=>obtain ⟨v,wr⟩:=r; cases wr <;> rfl
theorem E4 (fr:List (Nat × V)) (bl:List (Nat × Option aO)):St.blk ⟨fr,bl⟩ = lk bl none:=rfl
theorem aNR (res:List kT):∀ (k:List D->Option D),LI fr bl res k = (aT (vD ⟨fr,bl⟩) res).bind fun vs=>(aT (iX (lk bl none)) vs).bind k:=by
 induction res with
 | nil=>intro k; rfl
 | cons r res ih =>
  intro k
  cases r with
  | tmp t =>
   simp only [LI,kW,DA,ih,aT,vD,FB,E4]
   cases h1:aT (vD ⟨fr,bl⟩) res with
   | none =>
    simp only [Ĳ]
    cases iX (lk bl none) (lk fr .any t) <;> rfl
   | some vs =>
    simp only [À,aT]
    cases iX (lk bl none) (lk fr .any t) with
    | none=>rfl
    | some x=>cases aT (iX (lk bl none)) vs <;> rfl
  | cell t size isAgg =>
   simp only [LI,kW,S0,DA,ih,aT,vD,ID,FB,E4]
   cases NS size isAgg (lk fr .any t) (lk bl none) with
   | none=>rfl
   | some q =>
    obtain ⟨v,wr⟩:=q
    simp only [À]
    cases h1:aT (vD ⟨fr,bl⟩) res with
    | none =>
     simp only [Ĳ]
     cases iX (lk bl none) v <;> rfl
    | some vs =>
     simp only [À,aT]
     cases iX (lk bl none) v with
     | none=>rfl
     | some x=>cases aT (iX (lk bl none)) vs <;> rfl
theorem X8 (res:List kT):(match aT (vD ⟨fr,bl⟩) res with
  | none=>none
  | some [v]=>iX (lk bl none) v
  | some vs=>toD (lk bl none) (.tup vs)) = LI fr bl res OL:=by
 rw [aNR]
 cases aT (vD ⟨fr,bl⟩) res with
 | none=>rfl
 | some vs =>
  simp only [À]
  cases vs with
  | nil=>rfl
  | cons v vs =>
   cases vs with
   | nil =>
    simp only [aT]
    cases iX (lk bl none) v <;> rfl
   | cons w ws =>
    show (aT (iX (lk bl none)) (v :: w :: ws)).map D.tup = _
    simp only [aT]
    cases iX (lk bl none) v with
    | none=>rfl
    | some x=>cases iX (lk bl none) w with
     | none=>rfl
     | some y=>cases aT (iX (lk bl none)) ws <;> rfl
theorem aRR (res:List kT):aL5 res .normal ⟨fr,bl⟩ = LI fr bl res OL:=X8 res
theorem aRY (res:List kT):aL5 res .ret ⟨fr,bl⟩ = LI fr bl res OL:=X8 res
theorem aRL (res:List kT) (i:Nat) (s:St):aL5 res (.exit i) s = none:=rfl
theorem aJf (k:List D->Option D):LI fr bl [] k = k []:=rfl
theorem aKH (t:Nat) (r:List kT) (k:List D->Option D):LI fr bl (.tmp t :: r) k = kW fr t fun v=>DA v bl fun x _=>LI fr bl r fun l=>k (x :: l):=rfl
theorem aHS (t size:Nat) (isAgg:Bool) (r:List kT) (k:List D->Option D):LI fr bl (.cell t size isAgg :: r) k = kW fr t fun p=>BQ size isAgg p bl fun v=>DA v bl fun x _=>LI fr bl r fun l=>k (x :: l):=rfl
theorem aNA (x:D):OL [x] = some x:=rfl
theorem aQL (x y:D) (l:List D):OL (x :: y :: l) = some (.tup (x :: y :: l)):=rfl
theorem aW {T:wF} {f np nt:Nat} {res:List kT} {body:aP} (hf:T f = some (.code ⟨np,nt,res,body,false,false⟩)) (ds:List D) (hl:ds.length = np) (hlt:kG 0 ds = none):Vm.call T f ds = bM T body ⟨mZ 0 ds,[]⟩ (aL5 res):=by
 rw [aMu hf ds hl hlt]
 unfold bM
 cases Vm.ev T body ⟨mZ 0 ds,[]⟩ with
 | none=>rfl
 | some q =>
  obtain ⟨e,s⟩:=q
  cases e <;> rfl
def Z0:List V->V
 | [v]=>v
 | vs=>.tup vs
def PS (fr:List (Nat × V)) (bl:List (Nat × Option aO)):List kT->(List V->Option D)->Option D
 | [],k=>k []
 | .tmp t :: r,k=>kW fr t fun v=>PS fr bl r fun l=>k (v :: l)
 | .cell t size isAgg :: r,k=>kW fr t fun p=>BQ size isAgg p bl fun v=>PS fr bl r fun l=>k (v :: l)
theorem aPI (res:List kT):∀ (k:List V->Option D),PS fr bl res k = (aT (vD ⟨fr,bl⟩) res).bind k:=by
 induction res with
 | nil=>intro k; rfl
 | cons r res ih =>
  intro k
  cases r with
  | tmp t =>
   simp only [PS,kW,ih,aT,vD,FB]
   cases aT (vD ⟨fr,bl⟩) res <;> rfl
  | cell t size isAgg =>
   simp only [PS,kW,S0,ih,aT,vD,ID,FB,E4]
   cases NS size isAgg (lk fr .any t) (lk bl none) with
   | none=>rfl
   | some q =>
    obtain ⟨v,wr⟩:=q
    simp only [À]
    cases aT (vD ⟨fr,bl⟩) res <;> rfl
def aTa (res:List kT):Ex->St->Option D
 | .normal,s=>match aT (vD s) res with
  | none=>none
  | some [v]=>xL s.blk v
  | some vs=>xL s.blk (.tup vs)
 | .ret,s=>match aT (vD s) res with
  | none=>none
  | some [v]=>xL s.blk v
  | some vs=>xL s.blk (.tup vs)
 | .exit _,_=>none
theorem aEL (res:List kT):(match aT (vD ⟨fr,bl⟩) res with
  | none=>none
  | some [v]=>xL (lk bl none) v
  | some vs=>xL (lk bl none) (.tup vs)) = PS fr bl res fun vs=>xL (lk bl none) (Z0 vs):=by
 rw [aPI]
 cases aT (vD ⟨fr,bl⟩) res with
 | none=>rfl
 | some vs =>
  cases vs with
  | nil=>rfl
  | cons v vs=>cases vs <;> rfl
theorem aR9 (res:List kT):aTa res .normal ⟨fr,bl⟩ = PS fr bl res fun vs=>xL (lk bl none) (Z0 vs):=aEL res
theorem aSm (res:List kT):aTa res .ret ⟨fr,bl⟩ = PS fr bl res fun vs=>xL (lk bl none) (Z0 vs):=aEL res
theorem aSN (res:List kT) (i:Nat) (s:St):aTa res (.exit i) s = none:=rfl
theorem aK3 (k:List V->Option D):PS fr bl [] k = k []:=rfl
theorem aJb (t:Nat) (r:List kT) (k:List V->Option D):PS fr bl (.tmp t :: r) k = kW fr t fun v=>PS fr bl r fun l=>k (v :: l):=rfl
theorem aFx (t size:Nat) (isAgg:Bool) (r:List kT) (k:List V->Option D):PS fr bl (.cell t size isAgg :: r) k = kW fr t fun p=>BQ size isAgg p bl fun v=>PS fr bl r fun l=>k (v :: l):=rfl
theorem aNb (x:V):Z0 [x] = x:=rfl
theorem aPT (x y:V) (l:List V):Z0 (x :: y :: l) = .tup (x :: y :: l):=rfl
def VS (v:V) (b:Option aO) (x y:Option β):Option β:=match v,b with
 | .nil,none=>x
 | _,_=>y
theorem aOn (b:aO) (x y:Option β):VS .nil (some b) x y = y:=rfl
theorem aRJ (x y:Option β):VS .nil none x y = x:=rfl
theorem aJw (i v:Nat) (b:Option aO) (x y:Option β):VS (.own i v) b x y = y:=rfl
theorem aSG (z:D) (b:Option aO) (x y:Option β):VS (.d z) b x y = y:=rfl
theorem aJm (b:Option aO) (x y:Option β):VS .any b x y = y:=rfl
theorem aPS (live keep:List Nat) (t i e s:Nat) (l:List (Nat × Nat × Nat × Nat)) (c:List (Nat × Nat × Nat × Nat × Nat)) (ft:List Nat) (fc:List (Nat × Nat)) (k:List (Nat × V)->List (Nat × Option aO)->Option β) (hs:0 < s) :
  vX ⟨live,keep,(t,i,e,s) :: l,c,ft,fc⟩ fr bl k = kW fr t fun v=>bL bl i fun b=>VS v b (VJ e [] fun rows=>vX ⟨live,keep,l,c,ft,fc⟩ ((t,.own i 0) :: fr) ((i,some (.rows 0 e s rows)) :: bl) k) (vX ⟨live,keep,l,c,ft,fc⟩ fr bl k):=by
 show vX ⟨live,keep,(t,i,e,s) :: l,c,ft,fc⟩ fr bl k = VS (lk fr .any t) (lk bl none i) _ _
 unfold vX
 rw [aTi]
 unfold mkT VJ
 show k (xF.app ⟨live,keep,l,c,ft,fc⟩ (match lk fr .any t,lk bl none i with | .nil,none=>if 0 < s then _ else _ | _,_=>_)).fr (xF.app ⟨live,keep,l,c,ft,fc⟩ (match lk fr .any t,lk bl none i with | .nil,none=>if 0 < s then _ else _ | _,_=>_)).bl = _
 generalize lk fr .any t = v
 generalize lk bl none i = b
 cases v with
 | nil=>cases b with
  | none=>simp only [VS,Â hs]
  | some b=>rfl
 | _=>rfl
def aFm (b0:Option aO) (n:Nat) (b:Option aO) (x:List V->Option β) (y:Option β):Option β:=match b0 with
 | some (.box cs)=>match cs[n]?,b with
  | some .nil,none=>x cs
  | _,_=>y
 | _=>y
theorem aO6 (live keep:List Nat) (i n j e s:Nat) (c:List (Nat × Nat × Nat × Nat × Nat)) (ft:List Nat) (fc:List (Nat × Nat)) (k:List (Nat × V)->List (Nat × Option aO)->Option β) (hs:0 < s) :
  vX ⟨live,keep,[],(i,n,j,e,s) :: c,ft,fc⟩ fr bl k = bL bl i fun b0=>bL bl j fun b=>aFm b0 n b (fun cs=>CE cs n (.own j 0) fun cs'=>VJ e [] fun rows=>vX ⟨live,keep,[],c,ft,fc⟩ fr ((i,some (.box cs')) :: (j,some (.rows 0 e s rows)) :: bl) k) (vX ⟨live,keep,[],c,ft,fc⟩ fr bl k):=by
 show vX ⟨live,keep,[],(i,n,j,e,s) :: c,ft,fc⟩ fr bl k = aFm (lk bl none i) n (lk bl none j) _ _
 unfold vX
 rw [aTZ]
 have hm:∀ b0 b,lk bl none i = b0->lk bl none j = b->mkC (i,n,j,e,s) ⟨fr,bl⟩ = (match b0,b with
  | some (.box cs),none=>match cs[n]? with
   | some .nil=>if 0 < s then ⟨fr,(i,some (.box (cs.set n (.own j 0)))) :: (j,some (.rows 0 e s [])) :: bl⟩ else ⟨fr,bl⟩
   | _=>⟨fr,bl⟩
  | _,_=>⟨fr,bl⟩):=by
  rintro _ _ rfl rfl; rfl
 have hm:=hm _ _ rfl rfl
 rw [hm]
 generalize lk bl none i = b0
 generalize lk bl none j = b
 cases b0 with
 | none=>rfl
 | some b0=>cases b0 with
  | box cs =>
   cases b with
   | none =>
    simp only [aFm]
    cases h:cs[n]? with
    | none=>rfl
    | some v =>
     cases v with
     | nil =>
      have hn:n < cs.length:=by
       rw [Å] at h
       exact h.1
      simp only [Â hs,ZF,VJ]
      rw [Â (by omega)]
      have:∀ (cs:List V) (n:Nat),n < cs.length->iT cs n [.own j 0] = cs.set n (.own j 0):=by
       intro cs
       induction cs with
       | nil=>intro n h; simp at h
       | cons c cs ih =>
        intro n h
        cases n with
        | zero=>cases cs <;> rfl
        | succ n=>simp only [iT,List.set_cons_succ]; rw [ih n (by simpa using h)]
      rw [this cs n hn]
     | _=>rfl
   | some b=>simp only [aFm]; cases cs[n]? with
    | none=>rfl
    | some v=>cases v <;> rfl
  | _=>cases b <;> rfl
theorem aEi (k:List (Nat × Nat × V)->Option β):L8 fr [] k = k []:=rfl
theorem aBu (o s:Nat) (x:bO) (l:List (Nat × Nat × bO)) (k:List (Nat × Nat × V)->Option β):L8 fr ((o,s,x) :: l) k = bR fr x fun v=>L8 fr l fun vs=>k ((o,s,v) :: vs):=rfl
theorem aF4 (l:List (Nat × Nat × bO)):∀ (k:List (Nat × Nat × V)->Option β),L8 fr l k = k (l.map fun p=>(p.1,p.2.1,bN (lk fr .any) p.2.2)):=by
 induction l with
 | nil=>intro k; rfl
 | cons p l ih=>intro k; obtain ⟨o,s,x⟩:=p; simp only [L8,bR,ih,á]
def T1 (z:List V):List (Nat × Nat × V)->(List V->Option β)->Option β
 | [],k=>k z
 | (off,size,v) :: r,k=>xJ v fun cs=>rR cs size (dL z off cs fun z'=>T1 z' r k)
theorem aHX (z:List V) (k:List V->Option β):T1 z [] k = k z:=rfl
theorem aCG (z:List V) (off size:Nat) (v:V) (r:List (Nat × Nat × V)) (k:List V->Option β):T1 z ((off,size,v) :: r) k = xJ v fun cs=>rR cs size (dL z off cs fun z'=>T1 z' r k):=rfl
theorem aJc (ps:List (Nat × Nat × V)):∀ (z:List V) (k:List V->Option β),T1 z ps k = (IE z ps).bind k:=by
 induction ps with
 | nil=>intro z k; rfl
 | cons p r ih =>
  intro z k
  obtain ⟨off,size,v⟩:=p
  simp only [T1,IE,xJ,rR,dL,ih]
  by_cases h1:v.known = true
  ·by_cases h2:v.cells.length = size
   ·subst h2
    by_cases h3:off + v.cells.length <= z.length
    ·rw [Â h1,Â rfl,Â h3,Â ⟨rfl,h3,h1⟩]
    ·rw [Â h1,Â rfl,Ã h3,Ã (fun q=>h3 q.2.1)]; rfl
   ·rw [Â h1,Ã h2,Ã (fun q=>h2 q.1)]; rfl
  ·rw [Ã h1,Ã (fun q=>h1 q.2.2)]; rfl
theorem aG7 (z:List V) (parts:List (Nat × Nat × bO)):qF T d (.build z parts) fr bl k kw = L8 fr parts fun ps=>T1 z ps fun cs=>k (.agg cs):=by
 rw [jR,aF4,aJc]
 simp only [cE]
 have e1:(parts.map fun x=>match x with | (o,s,x)=>(o,s,bN (lk fr .any) x)) = parts.map fun p=>(p.1,p.2.1,bN (lk fr .any) p.2.2):=rfl
 rw [e1]
 cases IE z (parts.map fun p=>(p.1,p.2.1,bN (lk fr .any) p.2.2)) <;> rfl
theorem TX (ds:List D):(aE ds).length = ds.length:=by simp [aE]
def aLV (bytes:Nat) (a b:V) (x:Nat->Option β):Option β:=match a,b with
 | .d (.int _ n),.d (.int _ m)=>if 0 <= n ∧ n <= m ∧ (bytes:Int) * m <= 281474976710656 ∧ m <= 9223372036854775807 then x n.toNat else none
 | _,_=>none
theorem aSx (bytes:Nat) (i j:IntKind) (n m:Int) (x:Nat->Option β):aLV bytes (.d (.int i n)) (.d (.int j m)) x = if 0 <= n ∧ n <= m ∧ (bytes:Int) * m <= 281474976710656 ∧ m <= 9223372036854775807 then x n.toNat else none:=rfl
theorem aI2 {α:Type} (e size bytes:Nat) (z:List D) (c:α->List D) (x:α) (hz:z = c x) (l cp:bO):qF T d (.makeSlice e size bytes z l cp) fr bl k kw = bL bl d fun b=>gA b (bR fr l fun a=>bR fr cp fun b=>aLV bytes a b fun n=>kw (.own d 0) [(d,some (.rows 0 e size (cM c (List.replicate n x))))]):=U6 e size bytes z c x hz l cp
theorem aMc {k:Ex->St->Option β} (c:bO) (a b:aP):bM T (.cond c a b) ⟨fr,bl⟩ k = bR fr c fun v=>NR v (bM T a ⟨fr,bl⟩ k) (bM T b ⟨fr,bl⟩ k):=aKT c a b _
theorem aP2 (a b c:List (Nat × Option aO)) (t:Nat) (k:Option aO->Option β):bL ((a ++ b) ++ c) t k = bL (a ++ (b ++ c)) t k:=by rw [ç]
def aAm:List V->Nat->(V->Option β)->Option β->Option β
 | [],_,_,y=>y
 | c :: _,0,x,_=>x c
 | _ :: cs,n + 1,x,y=>aAm cs n x y
theorem aSO (c:V) (cs:List V) (x:V->Option β) (y:Option β):aAm (c :: cs) 0 x y = x c:=rfl
theorem aSE (c:V) (cs:List V) (n:Nat) (x:V->Option β) (y:Option β):aAm (c :: cs) (n + 1) x y = aAm cs n x y:=rfl
theorem aLh (cs:List V) (n:Nat) (b:Option aO) (x:List V->Option β) (y:Option β):aFm (some (.box cs)) n b x y = aAm cs n (fun v=>VS v b (x cs) y) y:=by
 have:∀ (l:List V) (n:Nat),(match l[n]?,b with | some .nil,none=>x cs | _,_=>y) = aAm l n (fun v=>VS v b (x cs) y) y:=by
  intro l
  induction l with
  | nil=>intro n; rfl
  | cons c l ih=>intro n; cases n with
   | zero=>cases c <;> cases b <;> rfl
   | succ n=>exact ih n
 exact this cs n
theorem aHP (n:Nat) (b:Option aO) (x:List V->Option β) (y:Option β):aFm none n b x y = y:=rfl
def aFi (rows:List (List D)) (k:V->Option β):Option β:=k (.d (.int .i64 rows.length))
theorem aNr {α:Type} (c:α->List D) (xs:List α):aFi (cM c xs) k = k (.d (.int .i64 (xs.length:Int))):=by unfold aFi; rw [yE]
theorem aOc:aFi [] k = k (.d (.int .i64 0)):=rfl
theorem aM7 (x:bO):qF T d (.len x) fr bl k kw = bR fr x fun a=>LN a bl fun rows=>aFi rows k:=aPZ x
def LD (v:V) (bl:List (Nat × Option aO)) (k:V->List (Nat × Option aO)->Option β) (y:Option β):Option β:=match nF (lk bl none) v with
 | some x=>k (.d x) (GC (lk bl none) v)
 | none=>y
theorem aSf (x:D) (k:V->List (Nat × Option aO)->Option β) (y:Option β):LD (.d x) bl k y = k (.d x) []:=rfl
theorem aLZ (k:V->List (Nat × Option aO)->Option β) (y:Option β):LD .nil bl k y = k (.d (.sl [])) []:=rfl
theorem aKQ (k:V->List (Nat × Option aO)->Option β) (y:Option β):LD .any bl k y = y:=rfl
def aQp (id ver:Nat) (b:Option aO) (k:V->List (Nat × Option aO)->Option β) (y:Option β):Option β:=match b with
 | some (.rows v _ _ rows)=>if ver = v then k (.d (.sl rows)) [(id,some (.froz v rows))] else y
 | some (.froz v rows)=>if ver = v then k (.d (.sl rows)) [] else y
 | _=>y
theorem aKO (id ver:Nat) (k:V->List (Nat × Option aO)->Option β) (y:Option β):LD (.own id ver) bl k y = bL bl id fun b=>aQp id ver b k y:=by
 unfold LD bL aQp
 simp only [nF,GC]
 generalize lk bl none id = b
 cases b with
 | none=>rfl
 | some b=>cases b with
  | rows v e s rows=>simp only; by_cases h:ver = v <;> simp [h]
  | froz v rows=>simp only; by_cases h:ver = v <;> simp [h]
  | _=>rfl
theorem aFn (id v e s:Nat) (rows:List (List D)) (k:V->List (Nat × Option aO)->Option β) (y:Option β):aQp id v (some (.rows v e s rows)) k y = k (.d (.sl rows)) [(id,some (.froz v rows))]:=Â rfl
theorem aH0 (id v:Nat) (rows:List (List D)) (k:V->List (Nat × Option aO)->Option β) (y:Option β):aQp id v (some (.froz v rows)) k y = k (.d (.sl rows)) []:=Â rfl
theorem aLB (live keep:List Nat) (t:Nat) (ft:List Nat) (fc:List (Nat × Nat)) (k:List (Nat × V)->List (Nat × Option aO)->Option β) :
  vX ⟨live,keep,[],[],t :: ft,fc⟩ fr bl k = kW fr t fun v=>LD v bl (fun v' wr=>vX ⟨live,keep,[],[],ft,fc⟩ ((t,v') :: fr) (wr ++ bl) k) (vX ⟨live,keep,[],[],ft,fc⟩ fr bl k):=by
 unfold vX
 rw [aRl]
 unfold O9 kW LD
 rw [FB,E4]
 dsimp only
 cases nF (lk bl none) (lk fr .any t) <;> rfl
def RH (v:V) (bl:List (Nat × Option aO)) (k:V->List (Nat × Option aO)->Option β) (y:Option β):Option β:=match iQ (lk bl none) v with
 | some x=>k (.d x) (CP (lk bl none) v)
 | none=>y
def aKy (n:Nat) (b:Option aO) (bl:List (Nat × Option aO)) (k:List V->List (Nat × Option aO)->Option β) (y:Option β):Option β:=match b with
 | some (.box cs)=>match cs[n]? with
  | some v=>match iQ (lk bl none) v with
   | some d=>k (cs.set n (.d d)) (CP (lk bl none) v)
   | none=>y
  | none=>y
 | _=>y
theorem aK4 (live keep:List Nat) (i n:Nat) (fc:List (Nat × Nat)) (k:List (Nat × V)->List (Nat × Option aO)->Option β) :
  vX ⟨live,keep,[],[],[],(i,n) :: fc⟩ fr bl k = bL bl i fun b=>aKy n b bl (fun cs wr=>vX ⟨live,keep,[],[],[],fc⟩ fr ((i,some (.box cs)) :: (wr ++ bl)) k) (vX ⟨live,keep,[],[],[],fc⟩ fr bl k):=by
 unfold vX
 rw [aS4]
 unfold frC bL aKy
 rw [E4]
 dsimp only
 cases lk bl none i with
 | none=>rfl
 | some b =>
  cases b with
  | box cs =>
   simp only
   cases cs[n]? with
   | none=>rfl
   | some v =>
    simp only
    cases iQ (lk bl none) v <;> rfl
  | _=>rfl
theorem aSv (cs:List V) (n:Nat) (w:V) (k:List V->Option β) (h:n < cs.length):CE cs n w k = k (cs.set n w):=by
 induction cs generalizing n k with
 | nil=>simp at h
 | cons c cs ih=>cases n with
  | zero=>rfl
  | succ n=>simp only [CE,List.set_cons_succ]; rw [ih n _ (by simpa using h)]
theorem aKS (n:Nat) (cs:List V) (k:List V->List (Nat × Option aO)->Option β) (y:Option β):aKy n (some (.box cs)) bl k y = aAm cs n (fun v=>RH v bl (fun v' wr=>CE cs n v' fun cs'=>k cs' wr) y) y:=by
 have e:∀ (l:List V) (n:Nat) (x:V->Option β),aAm l n x y = match l[n]? with | some v=>x v | none=>y:=by
  intro l
  induction l with
  | nil=>intro n x; rfl
  | cons c l ih=>intro n x; cases n with
   | zero=>rfl
   | succ n=>exact ih n x
 rw [e]
 simp only [aKy,RH]
 cases h:cs[n]? with
 | none=>rfl
 | some v =>
  simp only
  cases iQ (lk bl none) v with
  | none=>rfl
  | some d=>simp only; rw [aSv _ _ _ _ (Å.1 h).1]
theorem aP0 (x:D) (k:V->List (Nat × Option aO)->Option β) (y:Option β):RH (.d x) bl k y = k (.d x) []:=rfl
theorem aFA (k:V->List (Nat × Option aO)->Option β) (y:Option β):RH .nil bl k y = k (.d (.sl [])) []:=rfl
theorem aFF (k:V->List (Nat × Option aO)->Option β) (y:Option β):RH .any bl k y = y:=rfl
theorem aFK (id ver:Nat) (k:V->List (Nat × Option aO)->Option β) (y:Option β):RH (.own id ver) bl k y = LD (.own id ver) bl k y:=rfl
def aEb (id off:Nat) (b:Option aO) (bl:List (Nat × Option aO)) (k:V->List (Nat × Option aO)->Option β) (y:Option β):Option β:=match b with
 | some (.box cs)=>match aT (nF (lk bl none)) cs with
  | some ds=>k (.d (.ptr ds off)) ((id,some (.fbox ds)) :: cs.flatMap (GC (lk bl none)))
  | none=>y
 | some (.fbox cs)=>k (.d (.ptr cs off)) []
 | _=>y
theorem aIh (id off:Nat) (k:V->List (Nat × Option aO)->Option β) (y:Option β):RH (.ptr id off) bl k y = bL bl id fun b=>aEb id off b bl k y:=by
 unfold RH bL aEb
 simp only [iQ,CP]
 generalize lk bl none id = b
 cases b with
 | none=>rfl
 | some b =>
  cases b with
  | box cs =>
   dsimp only
   cases aT (nF (lk bl none)) cs <;> rfl
  | _=>rfl
theorem aGW (id off:Nat) (cs:List D) (k:V->List (Nat × Option aO)->Option β) (y:Option β):aEb id off (some (.fbox cs)) bl k y = k (.d (.ptr cs off)) []:=rfl
theorem aIf (id off:Nat) (k:V->List (Nat × Option aO)->Option β) (y:Option β):aEb id off none bl k y = y:=rfl
theorem aGR (n:Nat) (k:List V->List (Nat × Option aO)->Option β) (y:Option β):aKy n none bl k y = y:=rfl
end
end Vm
end
section
namespace Vm
open Go.RowKit
section
variable {β:Type} {T:wF}
def EY (d:Nat) (op:fT) (fr:List (Nat × V)) (bl:List (Nat × Option aO)) (k:List Nat->Option β):Option β :=
 k ((if op.new = true then [d] else []) ++ ((op.peeks.flatMap fun x=>(bN (lk fr .any) x).ids) ++ op.deeps.flatMap fun x=>(bN (lk fr .any) x).dids (lk bl none)))
def IB (wr:List (Nat × Option aO)) (k:List Nat->Option β):Option β:=k (wr.map (·.1))
theorem aFu (k:List Nat->Option β):IB [] k = k []:=rfl
theorem aPg (i:Nat) (b:Option aO) (w:List (Nat × Option aO)) (k:List Nat->Option β):IB ((i,b) :: w) k = IB w fun l=>k (i :: l):=rfl
theorem aLC (w:List (Nat × Option aO)) (k:List Nat->Option β):IB ([] ++ w) k = IB w k:=rfl
theorem aII (p:Nat × Option aO) (v w:List (Nat × Option aO)) (k:List Nat->Option β):IB ((p :: v) ++ w) k = IB (p :: (v ++ w)) k:=rfl
theorem aI7 (u v w:List (Nat × Option aO)) (k:List Nat->Option β):IB ((u ++ v) ++ w) k = IB (u ++ (v ++ w)) k:=by rw [ç]
theorem aEm (d st:Nat) (op:fT) (l:List aY) (fr:List (Nat × V)) (bl:List (Nat × Option aO)) (fp:List Fp) (k:St->List Fp->Option β) :
  mU T (⟨some d,op,none,st⟩ :: l) ⟨fr,bl⟩ fp k = qF T st op fr bl (fun v=>EY st op fr bl fun f=>mU T l ⟨(d,v) :: fr,bl⟩ ((f,[]) :: fp) k) (fun v wr=>IB wr fun ws=>EY st op fr bl fun f=>mU T l ⟨(d,v) :: fr,wr ++ bl⟩ ((f,ws) :: fp) k):=by
 rw [TA]
 unfold qF H3 EY
 show (match cE (call T) st (bN (lk fr .any)) (lk bl none) op with | some (v,wr)=>_ | none=>none) = _
 cases cE (call T) st (bN (lk fr .any)) (lk bl none) op with
 | none=>rfl
 | some r=>obtain ⟨v,wr⟩:=r; cases wr <;> rfl
theorem aAg (st:Nat) (op:fT) (l:List aY) (fr:List (Nat × V)) (bl:List (Nat × Option aO)) (fp:List Fp) (k:St->List Fp->Option β) :
  mU T (⟨none,op,none,st⟩ :: l) ⟨fr,bl⟩ fp k = qF T st op fr bl (fun _=>EY st op fr bl fun f=>mU T l ⟨fr,bl⟩ ((f,[]) :: fp) k) (fun _ wr=>IB wr fun ws=>EY st op fr bl fun f=>mU T l ⟨fr,wr ++ bl⟩ ((f,ws) :: fp) k):=by
 rw [TA]
 unfold qF H3 EY
 show (match cE (call T) st (bN (lk fr .any)) (lk bl none) op with | some (v,wr)=>_ | none=>none) = _
 cases cE (call T) st (bN (lk fr .any)) (lk bl none) op with
 | none=>rfl
 | some r=>obtain ⟨v,wr⟩:=r; cases wr <;> rfl
theorem aHm (fr:List (Nat × V)) (bl:List (Nat × Option aO)) (fp:List Fp) (k:St->List Fp->Option β):mU T [] ⟨fr,bl⟩ fp k = k ⟨fr,bl⟩ fp:=rfl
theorem aQP {l:List aY} {ps:List (Nat × Nat)} {s:St} {fp:List Fp} (k:St->Option β) (h:OS l fp.reverse ps = true):aOA l ps k s fp = k s:=Â h
theorem F4 {d:Option Nat} {st:Nat} {g g' : Option (Nat × Bool)} {fr:Nat->V} {bl:Nat->Option aO} {wr:List (Nat × Option aO)} (t:Nat) (b:Bool) (op:fT):BA ⟨d,N5 t b op,g,st⟩ fr bl wr = BA ⟨d,op,g',st⟩ fr bl wr:=by
 cases op with
 | pick c x y =>
  cases c with
  | t t' =>
   simp only [N5]
   split <;> rfl
  | c v=>rfl
 | _=>rfl
theorem aDj {C:Nat->List D->Option D} {s:St} {t:Nat} {b:Bool} (h:s.get t = .d (.bool b)) (o:aY):j7 C (OY t b o) s = j7 C o s:=by
 obtain ⟨d,op,g,st⟩:=o
 cases g with
 | some g =>
  obtain ⟨t',w⟩:=g
  simp only [OY]
  split
  ·rename_i e
   subst e
   split
   ·rename_i e
    subst e
    simp only [j7,aY.wants,h,CV h]
    cases w <;> simp only [BK] <;> cases cE C st (bN s.get) s.blk op <;> first | rfl | (simp [F4 (g':=some (t',false)),F4 (g':=some (t',true))]; done) | (simp [F4 (g':=some (t',false)),F4 (g':=some (t',true))]; rfl)
   ·rename_i e
    simp only [j7,aY.wants,h,cE,bN]
    cases w <;> cases b <;> simp_all [BK,BA,fT.new,fT.peeks,fT.deeps]
  ·simp only [j7,aY.wants,CV h]
   cases BK (s.get t') w <;> simp only [] <;> cases cE C st (bN s.get) s.blk op <;> simp [F4 (g':=some (t',w))]
 | none =>
  simp only [OY,j7,aY.wants,CV h]
  cases cE C st (bN s.get) s.blk op <;> simp [F4 (g':=none)]
theorem aD5 {C:Nat->List D->Option D} {o:aY} {s s' : St} {p:Fp} {t:Nat} (h:¬ o.dst = some t) (e:j7 C o s = some (s',p)):s'.get t = s.get t:=by
 unfold j7 at e
 split at e
 ·split at e
  ·cases e; exact GT h
  ·cases e
 ·cases e; exact GT h
 ·cases e
theorem MH {t:Nat} {b:Bool}:∀ (l:List aY) {s:St} (fp:List Fp) (k:St->List Fp->Option β) (h:s.get t = .d (.bool b)),mU T (C3 t b l) s fp k = mU T l s fp k
 | [],s,fp,k,h=>rfl
 | o :: l,s,fp,k,h=>by
  simp only [C3,mU,aDj h]
  cases e:j7 (call T) o s with
  | none=>rfl
  | some q =>
   obtain ⟨s',p⟩:=q
   simp only
   split
   ·rfl
   ·rename_i hd
    exact MH l _ k (by rw [aD5 hd e]; exact h)
noncomputable def G5 (T:wF) (v:V) (t:Nat) (l:List aY) (s:St) (fp:List Fp) (k:St->List Fp->Option β):Option β:=match v with
 | .d (.bool b)=>if b = true then mU T (C3 t true l) s fp k else mU T (C3 t false l) s fp k
 | .tup []=>match l with
  | o :: r=>mU T r (s.put o.dst (.tup []) []) (([],[]) :: fp) k
  | []=>none
 | _=>none
theorem aAJ (d:Option Nat) (op:fT) (t:Nat) (w:Bool) (st:Nat) (l:List aY) (fr:List (Nat × V)) (bl:List (Nat × Option aO)) (fp:List Fp) (k:St->List Fp->Option β) :
  mU T (⟨d,op,some (t,w),st⟩ :: l) ⟨fr,bl⟩ fp k = kW fr t fun v=>G5 T v t (⟨d,op,some (t,w),st⟩ :: l) ⟨fr,bl⟩ fp k:=by
 show _ = G5 T (lk fr .any t) t _ _ fp k
 generalize hv:lk fr .any t = v
 have bad:∀ (q:BK v w = .bad),mU T (⟨d,op,some (t,w),st⟩ :: l) ⟨fr,bl⟩ fp k = none:=by
  intro q
  simp only [mU,j7,aY.wants]
  rw [show (St.get ⟨fr,bl⟩ t) = v from hv,q]
 cases v with
 | d x =>
  cases x with
  | bool b =>
   simp only [G5]
   cases b with
   | true=>rw [Â rfl,MH (t:=t) (b:=true) (s:=⟨fr,bl⟩) _ _ _ hv]
   | false=>rw [Ã (by decide),MH (t:=t) (b:=false) (s:=⟨fr,bl⟩) _ _ _ hv]
  | _=>exact bad rfl
 | tup vs =>
  cases vs with
  | nil =>
   simp only [G5,mU,j7,aY.wants]
   rw [show (St.get ⟨fr,bl⟩ t) = _ from hv]
   rfl
  | cons x l=>exact bad rfl
 | _=>exact bad rfl
theorem aHx (b:Bool) (t:Nat) (l:List aY) (s:St) (fp:List Fp) (k:St->List Fp->Option β):G5 T (.d (.bool b)) t l s fp k = if b = true then mU T (C3 t true l) s fp k else mU T (C3 t false l) s fp k:=rfl
theorem aIB (t d st:Nat) (op:fT) (g:Option (Nat × Bool)) (l:List aY) (fr:List (Nat × V)) (bl:List (Nat × Option aO)) (fp:List Fp) (k:St->List Fp->Option β):G5 T (.tup []) t (⟨some d,op,g,st⟩ :: l) ⟨fr,bl⟩ fp k = mU T l ⟨(d,.tup []) :: fr,bl⟩ (([],[]) :: fp) k:=rfl
theorem aDf (t st:Nat) (op:fT) (g:Option (Nat × Bool)) (l:List aY) (fr:List (Nat × V)) (bl:List (Nat × Option aO)) (fp:List Fp) (k:St->List Fp->Option β):G5 T (.tup []) t (⟨none,op,g,st⟩ :: l) ⟨fr,bl⟩ fp k = mU T l ⟨fr,bl⟩ (([],[]) :: fp) k:=rfl
theorem qG {l l' : List aY} {s:St} {fp:List Fp} {k:St->List Fp->Option β} (h:l = l'):mU T l s fp k = mU T l' s fp k:=by rw [h]
theorem aPa (x:D) (ds:List D) (k:D->Option β):cA (x :: ds) 0 k = k x:=rfl
theorem aNU (x:D) (ds:List D) (n:Nat) (k:D->Option β):cA (x :: ds) (n + 1) k = cA ds n k:=rfl
section
variable {d:Nat} {fr:List (Nat × V)} {bl:List (Nat × Option aO)} {k:List Nat->Option β}
def FX (v:V) (k:List Nat->Option β):Option β:=k v.ids
theorem aRp (x:D):FX (.d x) k = k []:=rfl
theorem aJA:FX .nil k = k []:=rfl
theorem aJX:FX .any k = k []:=rfl
theorem aMH (i o:Nat):FX (.ptr i o) k = k [i]:=rfl
theorem aIF (i o:Nat):FX (.own i o) k = k [i]:=rfl
theorem aGK (i v j o:Nat):FX (.orow i v j o) k = k [i]:=rfl
def tM (bl:List (Nat × Option aO)):List V->(List Nat->Option β)->Option β
 | [],k=>k []
 | c :: cs,k=>k (c.dids1 (lk bl none) ++ cs.flatMap (V.dids1 (lk bl none)))
def BN (bl:List (Nat × Option aO)) (v:V) (k:List Nat->Option β):Option β:=k (v.dids (lk bl none))
theorem xX (cs:List V):tM bl cs k = k (cs.flatMap (V.dids1 (lk bl none))):=by cases cs <;> rfl
theorem aBR:tM bl [] k = k []:=rfl
theorem aKI (x:D) (cs:List V):tM bl (.d x :: cs) k = tM bl cs k:=by simp only [xX]; rfl
theorem aMC (cs:List V):tM bl (.nil :: cs) k = tM bl cs k:=by simp only [xX]; rfl
theorem aBL (cs:List V):tM bl (.any :: cs) k = tM bl cs k:=by simp only [xX]; rfl
theorem aBI (i o:Nat) (cs:List V):tM bl (.own i o :: cs) k = tM bl cs fun l=>k (i :: l):=by simp only [xX]; rfl
theorem aPU (x:D):BN bl (.d x) k = k []:=rfl
theorem aH7:BN bl .nil k = k []:=rfl
theorem aIy (i o:Nat):BN bl (.own i o) k = k [i]:=rfl
theorem aGt (cs:List V):BN bl (.agg cs) k = tM bl cs k:=by rw [xX]; rfl
theorem ZC (ds:List D):(aE ds).flatMap (V.dids1 (lk bl none)) = []:=by
 induction ds with
 | nil=>rfl
 | cons x ds ih=>exact ih
theorem aDv (ds:List D):BN bl (b9 ds) k = k []:=by
 show k ((aE ds).flatMap (V.dids1 (lk bl none))) = _
 rw [ZC]
theorem ZS (ds:List D):(aE ds).flatMap V.ids1 = []:=by
 induction ds with
 | nil=>rfl
 | cons x ds ih=>exact ih
def tH:List V->(List Nat->Option β)->Option β
 | [],k=>k []
 | c :: cs,k=>k (c.ids1 ++ cs.flatMap V.ids1)
theorem xW (cs:List V):tH cs k = k (cs.flatMap V.ids1):=by cases cs <;> rfl
theorem aC1:tH [] k = k []:=rfl
theorem aJN (x:D) (cs:List V):tH (.d x :: cs) k = tH cs k:=by simp only [xW]; rfl
theorem aI0 (cs:List V):tH (.nil :: cs) k = tH cs k:=by simp only [xW]; rfl
theorem aDM (cs:List V):tH (.any :: cs) k = tH cs k:=by simp only [xW]; rfl
theorem aCy (i o:Nat) (cs:List V):tH (.own i o :: cs) k = tH cs fun l=>k (i :: l):=by simp only [xW]; rfl
theorem aCZ (i o:Nat) (cs:List V):tH (.ptr i o :: cs) k = tH cs fun l=>k (i :: l):=by simp only [xW]; rfl
def WM (b:Option aO) (k:List Nat->Option β):Option β:=match b with
 | some (.box cs)=>k (cs.flatMap V.ids1)
 | _=>k []
theorem aHz (c:V) (cs:List V):WM (some (.box (c :: cs))) k = tH (c :: cs) k:=by rw [xW]; rfl
theorem YY (ds:List D):WM (some (.box (aE ds))) k = k []:=by
 show k ((aE ds).flatMap V.ids1) = _
 rw [ZS]
theorem aCq (ds:List D):WM (some (.fbox ds)) k = k []:=rfl
theorem aDO:WM none k = k []:=rfl
theorem aJC (i o:Nat):(V.ptr i o).dids1 (lk bl none) = i :: (match lk bl none i with | some (.box cs)=>cs.flatMap V.ids1 | _=>[]):=rfl
theorem aFN (i o:Nat):BN bl (.ptr i o) k = bL bl i fun b=>WM b fun l=>k (i :: l):=by
 unfold BN bL WM
 show k ((V.ptr i o).dids1 (lk bl none)) = _
 rw [aJC]
 cases lk bl none i with
 | none=>rfl
 | some b=>cases b <;> rfl
theorem aCQ (i o:Nat) (cs:List V):tM bl (.ptr i o :: cs) k = BN bl (.ptr i o) fun m=>tM bl cs fun l=>k (m ++ l):=by simp only [xX]; rfl
theorem aLv:EY d .fail fr bl k = k []:=rfl
theorem aKb (x:bO):EY d (.move x) fr bl k = k []:=rfl
theorem aLQ (a b c:bO):EY d (.pick a b c) fr bl k = k []:=rfl
theorem aHu (z:List V):EY d (.alloc z) fr bl k = k [d]:=rfl
theorem aP7 (x:bO):EY d (.box x) fr bl k = k [d]:=rfl
theorem aHe (z:List V) (ps:List (Nat × Nat × bO)):EY d (.build z ps) fr bl k = k []:=rfl
theorem UY (e s b:Nat) (z:List D) (x y:bO):EY d (.makeSlice e s b z x y) fr bl k = k [d]:=rfl
theorem fp1 (l:List Nat):([]:List Nat) ++ ((l ++ []) ++ []) = l:=by simp
theorem aLz (s:Nat) (a:Bool) (x:bO):EY d (.load s a x) fr bl k = bR fr x fun v=>FX v k:=by
 show k ([] ++ (((bN (lk fr .any) x).ids ++ []) ++ [])) = _
 rw [fp1]; rfl
theorem YE (x:bO):EY d (.nilCheck x) fr bl k = bR fr x fun v=>FX v k:=by
 show k ([] ++ (((bN (lk fr .any) x).ids ++ []) ++ [])) = _
 rw [fp1]; rfl
theorem VM (o:Nat) (x:bO):EY d (.fieldAddr o x) fr bl k = bR fr x fun v=>FX v k:=by
 show k ([] ++ (((bN (lk fr .any) x).ids ++ []) ++ [])) = _
 rw [fp1]; rfl
theorem aNJ (x:bO):EY d (.len x) fr bl k = bR fr x fun v=>FX v k:=by
 show k ([] ++ (((bN (lk fr .any) x).ids ++ []) ++ [])) = _
 rw [fp1]; rfl
theorem aFZ (s:Nat) (x:bO) (lo hi:Option bO):EY d (.slice s x lo hi) fr bl k = bR fr x fun v=>FX v k:=by
 show k ([] ++ (((bN (lk fr .any) x).ids ++ []) ++ [])) = _
 rw [fp1]; rfl
theorem VL (s:Nat) (x i:bO):EY d (.indexAddr s x i) fr bl k = bR fr x fun v=>FX v k:=by
 show k ([] ++ (((bN (lk fr .any) x).ids ++ []) ++ [])) = _
 rw [fp1]; rfl
theorem aFQ (s:Nat) (x v:bO):EY d (.store s x v) fr bl k = bR fr x fun a=>FX a fun l=>bR fr v fun b=>BN bl b fun m=>k (l ++ m):=by
 show k ([] ++ (((bN (lk fr .any) x).ids ++ []) ++ ((bN (lk fr .any) v).dids (lk bl none) ++ []))) = _
 rw [Ī,ý,ý]; rfl
theorem aCd (e s b:Nat) (x y:bO):EY d (.append e s b x y) fr bl k = bR fr x fun u=>FX u fun l=>bR fr y fun v=>FX v fun m=>k (d :: (l ++ m)):=by
 show k ([d] ++ (((bN (lk fr .any) x).ids ++ ((bN (lk fr .any) y).ids ++ [])) ++ [])) = _
 rw [ý,ý]; rfl
def EP (fr:List (Nat × V)) (bl:List (Nat × Option aO)):List bO->(List Nat->Option β)->Option β
 | [],k=>k []
 | x :: l,k=>bR fr x fun v=>BN bl v fun m=>EP fr bl l fun n=>k (m ++ n)
theorem JK (l:List bO):∀ (k:List Nat->Option β),EP fr bl l k = k (l.flatMap fun x=>(bN (lk fr .any) x).dids (lk bl none)):=by
 induction l with
 | nil=>intro k; rfl
 | cons x l ih=>intro k; simp only [EP,bR,BN,ih,ì]
theorem aCi (k:List Nat->Option β):EP fr bl [] k = k []:=rfl
theorem aAE (x:bO) (l:List bO) (k:List Nat->Option β):EP fr bl (x :: l) k = bR fr x fun v=>BN bl v fun m=>EP fr bl l fun n=>k (m ++ n):=rfl
theorem aKY (f:Nat) (args:List bO):EY d (.call f args) fr bl k = EP fr bl args k:=by
 rw [JK]; rfl
theorem aMY (f:Nat) (args:List bO):EY d (.mkfn f args) fr bl k = EP fr bl args k:=by
 rw [JK]; rfl
theorem aHI (g:bO) (args:List bO):EY d (.callv g args) fr bl k = EP fr bl args k:=by
 rw [JK]; rfl
def MK (fr:List (Nat × V)) (bl:List (Nat × Option aO)):List (Nat × bO)->(List Nat->Option β)->Option β
 | [],k=>k []
 | (_,x) :: l,k=>bR fr x fun v=>BN bl v fun m=>MK fr bl l fun n=>k (m ++ n)
theorem aGu (l:List (Nat × bO)):∀ (k:List Nat->Option β),MK fr bl l k = k ((l.map fun p=>p.2).flatMap fun x=>(bN (lk fr .any) x).dids (lk bl none)):=by
 induction l with
 | nil=>intro k; rfl
 | cons x l ih=>intro k; obtain ⟨i,x⟩:=x; simp only [MK,bR,BN,ih,á,ì]
theorem aCU (k:List Nat->Option β):MK fr bl [] k = k []:=rfl
theorem aAX (i:Nat) (x:bO) (l:List (Nat × bO)) (k:List Nat->Option β):MK fr bl ((i,x) :: l) k = bR fr x fun v=>BN bl v fun m=>MK fr bl l fun n=>k (m ++ n):=rfl
theorem SI (e s n:Nat) (z:List D) (ps:List (Nat × bO)):EY d (.buildSlice e s z n ps) fr bl k = MK fr bl ps fun l=>k (d :: l):=by
 rw [aGu]; rfl
theorem aN4 (c:Nat) (op:BinOp) (x y:bO):EY d (.bin c op x y) fr bl k = k []:=rfl
theorem aNa (ks:List Nat) (n:Bool) (x y:bO):EY d (.eqS ks n x y) fr bl k = k []:=rfl
theorem aRW (op:UnOp) (x:bO):EY d (.un op x) fr bl k = k []:=rfl
theorem aLt (kd:IntKind) (x:bO):EY d (.conv kd x) fr bl k = k []:=rfl
theorem YA (x:bO) (lo hi:Option bO):EY d (.strSlice x lo hi) fr bl k = k []:=rfl
theorem aIo (o s:Nat) (a:Bool) (x:bO):EY d (.field o s a x) fr bl k = k []:=rfl
theorem aGJ (x i:bO):EY d (.index x i) fr bl k = k []:=rfl
theorem aLY (x:bO):EY d (.lenS x) fr bl k = k []:=rfl
theorem aNf (l:List bO):EY d (.max l) fr bl k = k []:=rfl
theorem aPm (l:List bO):EY d (.min l) fr bl k = k []:=rfl
theorem aHr (x:bO):EY d (.bytes x) fr bl k = k []:=rfl
theorem aAo (x:bO) (i:Nat):EY d (.extract x i) fr bl k = k []:=rfl
theorem aJJ {k:Ex->St->Option β} (l:List aY) (ps:List (Nat × Nat)):bM T (.region l (some ps)) ⟨fr,bl⟩ k = mU T l ⟨fr,bl⟩ [] (aOA l ps (k .normal)):=by
 rw [aKv,aOW]
end
section
variable {d:Nat} {fr:List (Nat × V)} {bl:List (Nat × Option aO)} {k:V->Option β} {kw:V->List (Nat × Option aO)->Option β}
theorem aSn (a b c:List (Nat × Option aO)) (v:V):fzK ((a ++ b) ++ c) v k kw = fzK (a ++ (b ++ c)) v k kw:=by rw [ç]
def fzN (id:Nat) (f:List (Nat × Option aO)) (x:Option β):Option β:=if DO id f = true then x else none
theorem WB (id:Nat) (b:List (Nat × Option aO)):∀ a:List (Nat × Option aO),DO id (a ++ b) = if DO id a = true then DO id b else false
 | []=>rfl
 | (i,x) :: a=>by
  simp only [Č,DO]
  by_cases h:i = id
  ·simp [h]
  ·simp only [Ã h]; exact WB id b a
theorem aPC (id:Nat) (x:Option β):fzN id [] x = x:=rfl
theorem aTv (id i:Nat) (b:Option aO) (w:List (Nat × Option aO)) (x:Option β) (h:(i == id) = false):fzN id ((i,b) :: w) x = fzN id w x:=by
 have h:¬ i = id:=by simpa using h
 simp only [fzN,DO,Ã h]
theorem aQR (id:Nat) (a b:List (Nat × Option aO)) (x:Option β):fzN id (a ++ b) x = fzN id a (fzN id b x):=by
 unfold fzN
 rw [WB]
 by_cases h:DO id a = true
 ·rw [Â h,Â h]
 ·rw [Ã h,Ã h]; rfl
def a7 (row:List D) (off:Nat) (ds:List D) (size:Nat) (k:List D->Option β):Option β:=if ds.length = size ∧ off + size <= row.length then k (iT row off ds) else none
theorem Y6 (c:D) (cs:List D) (off:Nat) (e:D) (ds:List D) (n:Nat) (k:List D->Option β):a7 (c :: cs) (off + 1) (e :: ds) n k = a7 cs off (e :: ds) n fun l=>k (c :: l):=by
 unfold a7
 simp only [Ø,iT]
 by_cases h:ds.length + 1 = n ∧ off + n <= cs.length
 ·exact (Â (by omega)).trans (Â h).symm
 ·exact (Ã (by omega)).trans (Ã h).symm
theorem aAP (c:D) (cs:List D) (e:D) (ds:List D) (n:Nat) (k:List D->Option β):a7 (c :: cs) 0 (e :: ds) (n + 1) k = a7 cs 0 ds n fun l=>k (e :: l):=by
 unfold a7
 simp only [Ø,iT]
 by_cases h:ds.length = n ∧ 0 + n <= cs.length
 ·exact (Â (by omega)).trans (Â h).symm
 ·exact (Ã (by omega)).trans (Ã h).symm
theorem aAH (cs:List D) (k:List D->Option β):a7 cs 0 [] 0 k = k cs:=by
 unfold a7
 rw [Â ⟨rfl,by omega⟩,W3]
def DK (e:Nat) (rows:List (List D)) (i:Nat) (row:List D) (k:List (List D)->Option β):Option β:=k (rows.set i row)
theorem GJ {α:Type} (e:Nat) (c:α->List D) (xs:List α) (i:Nat) (x:α) (k:List (List D)->Option β):DK e (cM c xs) i (c x) k = k (cM c (xs.set i x)):=by
 unfold DK
 rw [aRM]
theorem aOz {α:Type} (size v i off id e sz:Nat) (w:V) (c:α->List D) (xs:List α):OV size v i off id w bl (some (.rows v e sz (cM c xs))) kw = ON w bl fun ds f=>fzN id f (xs[i]?.bind fun x=>a7 (c x) off ds size fun row=>DK e (cM c xs) i row fun rows=>kw .any ((id,some (.rows v e sz rows)) :: f)):=by
 unfold OV ON
 simp only [UM,Ë,cM,Ç]
 cases xs[i]? with
 | none =>
  simp only [Option.map_none,Ĳ]
  cases aT (iQ (lk bl none)) w.cells with
  | none=>rfl
  | some ds=>simp only [fzN]; split <;> rfl
 | some x =>
  simp only [Ù,À]
  cases aT (iQ (lk bl none)) w.cells with
  | none=>rfl
  | some ds =>
   simp only [a7,DK,fzN]
   by_cases h1:DO id (yG (lk bl none) w) = true
   ·rw [Â h1]
    by_cases h2:ds.length = size ∧ off + size <= (c x).length
    ·rw [Â h2,Â ⟨h2.1,h2.2,h1⟩]; rfl
    ·rw [Ã h2,Ã (fun q=>h2 ⟨q.1,q.2.1⟩)]; rfl
   ·rw [Ã h1,Ã (fun q=>h1 q.2.2)]; rfl
end
end
section
variable {β:Type} {T:wF} {bl:List (Nat × Option aO)} {k:V->Option β} {kw:V->List (Nat × Option aO)->Option β}
def wL (size id ver:Nat) (lo hi:Option V) (b:Option aO) (k:V->Option β) (kw:V->List (Nat × Option aO)->Option β):Option β:=GD (zR (fun _=>b) size (.own id ver) lo hi) k kw
theorem aD7 (size id ver:Nat) (lo hi:Option V):HD size (.own id ver) lo hi bl k kw = bL bl id fun b=>wL size id ver lo hi b k kw:=by
 unfold HD bL wL
 congr 1
 cases lo with
 | none=>cases hi with
  | none=>rfl
  | some h=>cases h with
   | d x=>cases x <;> rfl
   | _=>rfl
 | some l=>rfl
theorem xZ {α:Type} (size id v:Nat) (c:α->List D) (xs:List α) (hs:sized size (cM c xs) = true) (b:aO) (wr:List (Nat × Option aO)) (lo hi:Option V) (l h:Int) (hl:E6 lo 0 = some l) (hh:E6 hi (xs.length:Int) = some h)
  (hb:gF (fun _=>some b) (.own id v) = some (cM c xs)) (hw:CP (fun _=>some b) (.own id v) = wr) (hn:lo = none->hi = none) :
  wL size id v lo hi (some b) k kw = if jL xs.length l h then GD (some (.d (.sl (cM c (iI xs l h))),wr)) k kw else none:=by
 have e0:zR (fun _=>some b) size (.own id v) lo hi = (match E6 hi ((cM c xs).length:Int),E6 lo 0 with
   | some h,some l=>if 0 <= l ∧ l <= h ∧ h.toNat <= (cM c xs).length ∧ sized size (cM c xs) = true then some (.d (.sl (((cM c xs).take h.toNat).drop l.toNat)),wr) else none
   | _,_=>none):=by
  cases lo with
  | none =>
   obtain rfl:=hn rfl
   unfold zR
   simp only [hb,hw]
   rfl
  | some w =>
   unfold zR
   simp only [hb,hw]
   rfl
 unfold wL
 rw [e0,show ((cM c xs).length:Int) = (xs.length:Int) by simp [cM],hl,hh]
 simp only [show (cM c xs).length = xs.length by simp [cM]]
 by_cases q:jL xs.length l h
 ·rw [Â q,Â ⟨q.1,q.2.1,q.2.2,hs⟩]
  simp only [cM,iI,List.map_drop,Ğ]
 ·rw [Ã q,Ã (fun w=>q ⟨w.1,w.2.1,w.2.2.1⟩)]; rfl
section
variable {α:Type} (size id v:Nat) (c:α->List D) (xs:List α) (hs:sized size (cM c xs) = true)
include hs
theorem aDC (e s:Nat) (kd:IntKind) (l:Int):wL size id v (some (.d (.int kd l))) none (some (.rows v e s (cM c xs))) k kw = if jL xs.length l (xs.length:Int) then kw (.d (.sl (cM c (iI xs l (xs.length:Int))))) [(id,some (.froz v (cM c xs)))] else none :=
 xZ size id v c xs hs _ _ _ _ _ _ rfl rfl (by simp [gF]) rfl (fun h=>by cases h)
theorem aDu (e s:Nat) (kd kd' : IntKind) (l h:Int):wL size id v (some (.d (.int kd l))) (some (.d (.int kd' h))) (some (.rows v e s (cM c xs))) k kw = if jL xs.length l h then kw (.d (.sl (cM c (iI xs l h)))) [(id,some (.froz v (cM c xs)))] else none :=
 xZ size id v c xs hs _ _ _ _ _ _ rfl rfl (by simp [gF]) rfl (fun h=>by cases h)
theorem aCS (e s:Nat):wL size id v none none (some (.rows v e s (cM c xs))) k kw = if jL xs.length 0 (xs.length:Int) then kw (.d (.sl (cM c (iI xs 0 (xs.length:Int))))) [(id,some (.froz v (cM c xs)))] else none :=
 xZ size id v c xs hs _ _ _ _ _ _ rfl rfl (by simp [gF]) rfl (fun _=>rfl)
theorem aCX (kd:IntKind) (l:Int):wL size id v (some (.d (.int kd l))) none (some (.froz v (cM c xs))) k kw = if jL xs.length l (xs.length:Int) then k (.d (.sl (cM c (iI xs l (xs.length:Int))))) else none :=
 xZ size id v c xs hs _ _ _ _ _ _ rfl rfl (by simp [gF]) rfl (fun h=>by cases h)
theorem aEf (kd kd' : IntKind) (l h:Int):wL size id v (some (.d (.int kd l))) (some (.d (.int kd' h))) (some (.froz v (cM c xs))) k kw = if jL xs.length l h then k (.d (.sl (cM c (iI xs l h)))) else none :=
 xZ size id v c xs hs _ _ _ _ _ _ rfl rfl (by simp [gF]) rfl (fun h=>by cases h)
theorem aCs:wL size id v none none (some (.froz v (cM c xs))) k kw = if jL xs.length 0 (xs.length:Int) then k (.d (.sl (cM c (iI xs 0 (xs.length:Int))))) else none :=
 xZ size id v c xs hs _ _ _ _ _ _ rfl rfl (by simp [gF]) rfl (fun _=>rfl)
end
theorem aB9 {α:Type} (size id v e s:Nat) (c:α->List D) (xs:List α) (kd:IntKind) (h:Int):wL size id v none (some (.d (.int kd h))) (some (.rows v e s (cM c xs))) k kw = if 0 <= h ∧ h.toNat <= xs.length then kw (.own id (v + 1)) [(id,some (.rows (v + 1) e s (cM c (xs.take h.toNat))))] else none:=by
 unfold wL zR
 simp only [cM,â,true_and,Ğ]
 split <;> rfl
end
end Vm
end
section
namespace Vm
open Go.RowKit
section
variable {β:Type} {T:wF} {d:Nat} {fr:List (Nat × V)} {bl:List (Nat × Option aO)} {k:V->Option β} {kw:V->List (Nat × Option aO)->Option β}
def aSK (size:Nat) (a:V) (lo hi:Option V) (bl:List (Nat × Option aO)) (kw:V->List (Nat × Option aO)->Option β):Option β:=match LS (lk bl none) size a lo hi with
 | some (v,wr)=>kw v wr
 | none=>none
def TS (size id ver:Nat) (lo hi:Option V) (b:Option aO) (kw:V->List (Nat × Option aO)->Option β):Option β:=match LS (fun _=>b) size (.own id ver) lo hi with
 | some (v,wr)=>kw v wr
 | none=>none
theorem aNY {bl:Nat->Option aO} {size:Nat} {a:V} {lo hi:Option V} {v:V} {wr:List (Nat × Option aO)} (h:LS bl size a lo hi = some (v,wr)):∃ p l,wr = p :: l:=by
 unfold LS at h
 split at h
 ·split at h
  ·split at h
   ·split at h
    ·cases h; exact ⟨_,_,rfl⟩
    ·cases h
   ·cases h
  ·cases h
 ·cases h
theorem aNF (size:Nat) (x:bO) (lo hi:Option bO):qF T d (.cut size x lo hi) fr bl k kw = bR fr x fun a=>aBH fr lo fun l=>aBH fr hi fun h=>aSK size a l h bl kw:=by
 rw [jR]
 simp only [cE]
 have e:∀ (o:Option bO) (g:Option V->Option β),aBH fr o g = g (o.map (bN (lk fr .any))):=fun o g=>by cases o <;> rfl
 simp only [e,bR,aSK,GD]
 cases h:LS (lk bl none) size (bN (lk fr .any) x) (lo.map (bN (lk fr .any))) (hi.map (bN (lk fr .any))) with
 | none=>rfl
 | some r =>
  obtain ⟨v,wr⟩:=r
  obtain ⟨p,l,rfl⟩:=aNY h
  rfl
theorem aKW (size id ver:Nat) (lo hi:Option V):aSK size (.own id ver) lo hi bl kw = bL bl id fun b=>TS size id ver lo hi b kw:=rfl
theorem aMT {α:Type} (c:α->List D) (xs:List α) (e s id v:Nat) (kd:IntKind) (l:Int):TS s id v (some (.d (.int kd l))) none (some (.rows v e s (cM c xs))) kw = if jL xs.length l (xs.length:Int) then kw (.own id (v + 1)) [(id,some (.rows (v + 1) e s (cM c (iI xs l (xs.length:Int)))))] else none:=by
 have e1:(cM c xs).length = xs.length:=â ..
 have e2:((cM c xs).take (Int.toNat (xs.length:Int))).drop l.toNat = cM c (iI xs l (xs.length:Int)):=by unfold cM iI; rw [List.map_drop,Ğ]
 by_cases h:jL xs.length l (xs.length:Int)
 ·rw [Â h]
  simp only [TS,LS,e1,e2]
  rw [Â ⟨trivial,trivial,h⟩]
 ·rw [Ã h]
  simp only [TS,LS,e1,e2]
  rw [Ã fun q=>h q.2.2]
theorem aJH {α:Type} (c:α->List D) (xs:List α) (e s id v:Nat) (kd kd' : IntKind) (l m:Int):TS s id v (some (.d (.int kd l))) (some (.d (.int kd' m))) (some (.rows v e s (cM c xs))) kw = if jL xs.length l m then kw (.own id (v + 1)) [(id,some (.rows (v + 1) e s (cM c (iI xs l m))))] else none:=by
 have e1:(cM c xs).length = xs.length:=â ..
 have e2:((cM c xs).take m.toNat).drop l.toNat = cM c (iI xs l m):=by unfold cM iI; rw [List.map_drop,Ğ]
 by_cases h:jL xs.length l m
 ·rw [Â h]
  simp only [TS,LS,e1,e2]
  rw [Â ⟨trivial,trivial,h⟩]
 ·rw [Ã h]
  simp only [TS,LS,e1,e2]
  rw [Ã fun q=>h q.2.2]
def YB (z:List D) (a:V) (bl:List (Nat × Option aO)) (k:V->Option β) (kw:V->List (Nat × Option aO)->Option β):Option β:=GD (match a with
  | .nil=>some (.any,[])
  | .own id ver=>match lk bl none id with
   | some (.rows v e size rows)=>if ver = v ∧ z.length = size then some (.any,[(id,some (.rows v e size (List.replicate rows.length z)))]) else none
   | _=>none
  | _=>none) k kw
def aE0 (z:List D) (id ver:Nat) (b:Option aO) (kw:V->List (Nat × Option aO)->Option β):Option β:=match b with
 | some (.rows v e size rows)=>if ver = v ∧ z.length = size then kw .any [(id,some (.rows v e size (List.replicate rows.length z)))] else none
 | _=>none
def S6 (neg:Bool) (a:V) (bl:List (Nat × Option aO)) (k:V->Option β):Option β:=match M8 (lk bl none) neg a with
 | some d=>k (.d d)
 | none=>none
def JA (neg:Bool) (ver:Nat) (b:Option aO) (k:V->Option β):Option β:=match b with
 | some (.rows v _ _ rows)=>if ver = v ∧ 0 < rows.length then k (.d (.bool neg)) else none
 | some (.froz v rows)=>if ver = v ∧ 0 < rows.length then k (.d (.bool neg)) else none
 | _=>none
theorem Y2 {α:Type} (c:α->List D) (xs:List α) (neg:Bool) (v e size:Nat):JA neg v (some (.rows v e size (cM c xs))) k = if 0 < xs.length then k (.d (.bool neg)) else none:=by
 unfold JA
 simp only [yE,true_and]
theorem XX {α:Type} (c:α->List D) (xs:List α) (neg:Bool) (v:Nat):JA neg v (some (.froz v (cM c xs))) k = if 0 < xs.length then k (.d (.bool neg)) else none:=by
 unfold JA
 simp only [yE,true_and]
theorem aGj (neg:Bool) (x:bO):qF T d (.isnil neg x) fr bl k kw = bR fr x fun a=>S6 neg a bl k:=by
 unfold qF bR S6
 simp only [cE,LA.v]
 cases M8 (lk bl none) neg (bN (lk fr .any) x) <;> rfl
theorem aCF (neg:Bool):S6 neg .nil bl k = k (.d (.bool (!neg))):=rfl
theorem aBO (neg:Bool) (id ver:Nat):S6 neg (.own id ver) bl k = bL bl id fun b=>JA neg ver b k:=by
 unfold S6 M8 JA bL
 simp only [gF]
 cases lk bl none id with
 | none=>rfl
 | some b =>
  cases b with
  | rows v e size rows =>
   simp only
   by_cases q:ver = v
   ·cases rows <;> simp [q]
   ·simp [q]
  | froz v rows =>
   simp only
   by_cases q:ver = v
   ·cases rows <;> simp [q]
   ·simp [q]
  | _=>rfl
theorem aFC (z:List D) (x:bO):qF T d (.clear z x) fr bl k kw = bR fr x fun a=>YB z a bl k kw:=by
 rw [jR]
 rfl
theorem aCc (z:List D):YB z .nil bl k kw = k .any:=rfl
theorem aEe (z:List D) (id ver:Nat):YB z (.own id ver) bl k kw = bL bl id fun b=>aE0 z id ver b kw:=by
 unfold YB bL aE0
 simp only
 cases lk bl none id with
 | none=>rfl
 | some b =>
  cases b with
  | rows v e size rows =>
   simp only
   split <;> rfl
  | _=>rfl
def PZ:List bO->Nat->(bO->Option β)->Option β
 | [],_,_=>none
 | x :: _,0,g=>g x
 | _ :: l,n + 1,g=>PZ l n g
theorem aRN (x:bO) (l:List bO) (g:bO->Option β):PZ (x :: l) 0 g = g x:=rfl
theorem aRk (x:bO) (l:List bO) (n:Nat) (g:bO->Option β):PZ (x :: l) (n + 1) g = PZ l n g:=rfl
theorem aEG (g:bO->Option β):∀ (l:List bO) (n:Nat),PZ l n g = l[n]?.bind g
 | [],_=>rfl
 | _ :: _,0=>rfl
 | _ :: l,n + 1=>aEG g l n
def XP (v:V) (g:Nat->Nat->Option β):Option β:=match v with
 | .own id ver=>g id ver
 | _=>none
theorem aRX (id ver:Nat) (g:Nat->Nat->Option β):XP (.own id ver) g = g id ver:=rfl
def aA8 (v:V) (bl:List (Nat × Option aO)) (g:D->Option β):Option β:=(OB (lk bl none) v).bind g
def aCw (ver:Nat) (b:Option aO) (g:D->Option β):Option β:=match b with
 | some (.rows v e size rows)=>if ver = v then g (.own (.ref 0) [(e,size)] [rows]) else none
 | _=>none
theorem aGe (id ver:Nat) (g:D->Option β):aA8 (.own id ver) bl g = bL bl id fun b=>aCw ver b g:=by
 unfold aA8 bL aCw OB
 simp only
 cases lk bl none id with
 | none=>rfl
 | some b =>
  cases b with
  | rows v e size rows=>simp only; split <;> rfl
  | _=>rfl
theorem aBa (v e s:Nat) (rows:List (List D)) (g:D->Option β):aCw v (some (.rows v e s rows)) g = g (.own (.ref 0) [(e,s)] [rows]):=Â rfl
def HY (fr:List (Nat × V)) (bl:List (Nat × Option aO)) (t:Nat):Nat->List bO->(List D->List (Nat × Option aO)->Option β)->Option β
 | _,[],g=>g [] []
 | i,x :: l,g=>bR fr x fun v=>if i = t then aA8 v bl fun y=>HY fr bl t (i + 1) l fun ds f=>g (y :: ds) f else DA v bl fun y f=>HY fr bl t (i + 1) l fun ds f'=>g (y :: ds) (f ++ f')
theorem aIi (t i:Nat) (g:List D->List (Nat × Option aO)->Option β):HY fr bl t i [] g = g [] []:=rfl
theorem aFv (t i:Nat) (x:bO) (l:List bO) (g:List D->List (Nat × Option aO)->Option β) (h:(i == t) = true):HY fr bl t i (x :: l) g = bR fr x fun v=>aA8 v bl fun y=>HY fr bl t (i + 1) l fun ds f=>g (y :: ds) f:=by
 have:i = t:=by simpa using h
 simp only [HY,Â this]
theorem aCr (t i:Nat) (x:bO) (l:List bO) (g:List D->List (Nat × Option aO)->Option β) (h:(i == t) = false):HY fr bl t i (x :: l) g = bR fr x fun v=>DA v bl fun y f=>HY fr bl t (i + 1) l fun ds f'=>g (y :: ds) (f ++ f'):=by
 have:¬ i = t:=by simpa using h
 simp only [HY,Ã this]
theorem SF (t:Nat):∀ (l:List bO) (i:Nat) (g:List D->List (Nat × Option aO)->Option β),HY fr bl t i l g = (FH (lk bl none) t i (l.map (bN (lk fr .any)))).bind fun ds=>g ds (uO (lk bl none) t i (l.map (bN (lk fr .any))))
 | [],i,g=>rfl
 | x :: l,i,g=>by
  simp only [HY,á,FH,uO,bR]
  by_cases h:i = t
  ·simp only [Â h,aA8,SF t l (i + 1)]
   cases OB (lk bl none) (bN (lk fr .any) x) with
   | none=>rfl
   | some y =>
    cases FH (lk bl none) t (i + 1) (l.map (bN (lk fr .any))) with
    | none=>rfl
    | some ds=>simp
  ·simp only [Ã h,DA,SF t l (i + 1)]
   cases iX (lk bl none) (bN (lk fr .any) x) with
   | none=>rfl
   | some y=>cases FH (lk bl none) t (i + 1) (l.map (bN (lk fr .any))) <;> rfl
noncomputable def aQ3 (T:wF) (bl:List (Nat × Option aO)) (f id ver:Nat) (ds:List D) (kw:V->List (Nat × Option aO)->Option β):Option β:=match call T f ds with
 | some (.own y [(e,size)] [rows'])=>match lk bl none id with
  | some (.rows v e' size' _)=>if ver = v ∧ e = e' ∧ size = size' ∧ JR y = true ∧ rN rows' = true then kw (toV y) [(id,some (.rows v e size rows'))] else none
  | _=>none
 | _=>none
theorem aJI (f:Nat) (args:List bO) (t:Nat):qF T d (.lend f args t) fr bl k kw = PZ args t fun x=>bR fr x fun v=>XP v fun id ver=>HY fr bl t 0 args fun ds fz=>fzN id fz (aQ3 T bl f id ver ds kw):=by
 rw [jR,aEG]
 simp only [cE,Ç]
 cases args[t]? with
 | none=>rfl
 | some x =>
  simp only [Ù,À,bR]
  generalize bN (lk fr .any) x = v
  cases v with
  | own id ver =>
   simp only [XP,SF]
   cases FH (lk bl none) t 0 (args.map (bN (lk fr .any))) with
   | none=>rfl
   | some ds =>
    simp only [À,fzN]
    split
    ·unfold aQ3
     generalize call T f ds = r
     generalize lk bl none id = b
     split
     ·split
      ·split
       ·rename_i hq
        exact (Â hq).symm
       ·rename_i hq
        exact (Ã hq).symm
      ·rename_i hq
       cases b with
       | none=>rfl
       | some b=>cases b <;> first | rfl | exact absurd rfl (hq _ _ _ _)
     ·rename_i hq
      split
      ·exact absurd rfl (hq _ _ _ _)
      ·rfl
    ·rfl
  | _=>rfl
def aRI (ver e size:Nat) (rows' : List (List D)) (b:Option aO) (g:Option aO->Option β):Option β:=match b with
 | some (.rows v e' s' _)=>if ver = v ∧ e = e' ∧ size = s' then g (some (.rows v e size rows')) else none
 | _=>none
theorem aBt (v e s:Nat) (rows rows' : List (List D)) (g:Option aO->Option β):aRI v e s rows' (some (.rows v e s rows)) g = g (some (.rows v e s rows')):=Â ⟨rfl,rfl,rfl⟩
theorem m7 {α:Type} (c:α->List D) (hc:∀ x,(c x).all HV = true) (xs:List α):rN (cM c xs) = true:=by
 unfold rN cM
 rw [Ì]
 intro row hr
 obtain ⟨x,_,rfl⟩:=Þ.1 hr
 exact hc x
def aRg (res:List kT) (t:Nat):Ex->St->Option D
 | .normal,s=>ED ⟨0,0,res,.skip,true,true⟩ s t
 | .ret,s=>ED ⟨0,0,res,.skip,true,true⟩ s t
 | .exit _,_=>none
def AP (ver:Nat) (b:Option aO) (g:Nat->Nat->List (List D)->Option D):Option D:=match b with
 | some (.rows v e size rows)=>if ver = v then g e size rows else none
 | _=>none
theorem aDQ (v e s:Nat) (rows:List (List D)) (g:Nat->Nat->List (List D)->Option D):AP v (some (.rows v e s rows)) g = g e s rows:=Â rfl
def P2 (e s:Nat) (rows:List (List D)) (y:D):Option D:=if JR y = true then some (.own y [(e,s)] [rows]) else none
theorem aMv (e s:Nat) (rows:List (List D)):P2 e s rows (.tup []) = some (.own (.tup []) [(e,s)] [rows]):=rfl
theorem aLa (e s:Nat) (rows:List (List D)) (k:IntKind) (n:Int):P2 e s rows (.int k n) = some (.own (.int k n) [(e,s)] [rows]):=rfl
theorem aMj (e s:Nat) (rows:List (List D)) (b:Bool):P2 e s rows (.bool b) = some (.own (.bool b) [(e,s)] [rows]):=rfl
theorem aE1 (res:List kT) (t:Nat):ED ⟨0,0,res,.skip,true,true⟩ ⟨fr,bl⟩ t = kW fr t fun v=>XP v fun id ver=>bL bl id fun b=>AP ver b fun e s rows=>(LI fr bl res OL).bind (P2 e s rows):=by
 unfold ED kW
 rw [FB]
 cases lk fr .any t with
 | own id ver =>
  simp only [XP,bL,AP]
  rw [E4]
  cases lk bl none id with
  | none=>rfl
  | some b =>
   cases b with
   | rows v e size rows =>
    simp only
    split
    ·rw [← X8]
     cases aT (vD ⟨fr,bl⟩) res with
     | none=>rfl
     | some us =>
      cases us with
      | nil=>rfl
      | cons u us=>cases us with
       | nil=>simp only [E4]; cases iX (lk bl none) u <;> rfl
       | cons w us=>simp only [E4]; cases toD (lk bl none) (.tup (u :: w :: us)) <;> rfl
    ·rfl
   | _=>rfl
 | _=>rfl
theorem aRD (res:List kT) (t:Nat):aRg res t .normal ⟨fr,bl⟩ = kW fr t fun v=>XP v fun id ver=>bL bl id fun b=>AP ver b fun e s rows=>(LI fr bl res OL).bind (P2 e s rows):=aE1 res t
theorem aSu (res:List kT) (t:Nat):aRg res t .ret ⟨fr,bl⟩ = kW fr t fun v=>XP v fun id ver=>bL bl id fun b=>AP ver b fun e s rows=>(LI fr bl res OL).bind (P2 e s rows):=aE1 res t
theorem aSS (res:List kT) (t i:Nat) (s:St):aRg res t (.exit i) s = none:=rfl
theorem aNS:OL [] = some (.tup []):=rfl
end
section
variable {β:Type} {T:wF}
end
section
variable {β:Type} {T:wF} {fr:List (Nat × V)} {bl:List (Nat × Option aO)}
def ER (fr:List (Nat × V)):List Nat->(List V->Option β)->Option β
 | [],k=>k []
 | t :: l,k=>kW fr t fun v=>ER fr l fun vs=>k (v :: vs)
theorem V8 (l:List Nat) (k:List V->Option β):ER fr l k = k (l.map (lk fr .any)):=by
 induction l generalizing k with
 | nil=>rfl
 | cons x l ih=>simp only [ER,kW,ih,á]
theorem aCI (k:List V->Option β):ER fr [] k = k []:=rfl
theorem aAL (t:Nat) (l:List Nat) (k:List V->Option β):ER fr (t :: l) k = kW fr t fun v=>ER fr l fun vs=>k (v :: vs):=rfl
def aTP (args:List bO) (id:Nat) (slots:List Nat) (fr:List (Nat × V)) (bl:List (Nat × Option aO)) (k:List (Nat × V)->List (Nat × Option aO)->Option β):Option β :=
 bL bl id fun b=>gA b (ER fr slots fun cs=>HQ fr args fun vs=>k (s8 0 vs) ((id,some (.outer cs)) :: bl))
def inK (args:List bO) (id:Nat) (slots:List Nat) (s:St) (k:List (Nat × V)->List (Nat × Option aO)->Option β):Option β:=aTP args id slots s.fr s.bl k
theorem aS9 (args:List bO) (id:Nat) (slots:List Nat) (k:List (Nat × V)->List (Nat × Option aO)->Option β):inK args id slots ⟨fr,bl⟩ k = bL bl id fun b=>gA b (ER fr slots fun cs=>HQ fr args fun vs=>k (s8 0 vs) ((id,some (.outer cs)) :: bl)):=rfl
theorem aFS (i:Nat):s8 i [] = []:=rfl
theorem aC0 (i:Nat) (v:V) (l:List V):s8 i (v :: l) = (i,v) :: s8 (i + 1) l:=rfl
theorem aOb (args:List bO) (id:Nat) (slots:List Nat) (k:St->Option β):(WT args id slots ⟨fr,bl⟩).bind k = inK args id slots ⟨fr,bl⟩ fun fr' bl'=>k ⟨fr',bl'⟩:=by
 unfold WT inK aTP bL gA
 rw [aDZ]
 cases hb:lk bl none id with
 | some b=>rfl
 | none =>
  simp only [Option.isNone_none,Ë,À,V8,OH]
  rfl
def RU (fr:List (Nat × V)) (bl:List (Nat × Option aO)):List kT->(List V->Option β)->Option β
 | [],k=>k []
 | .tmp t :: r,k=>kW fr t fun v=>RU fr bl r fun l=>k (v :: l)
 | .cell t size isAgg :: r,k=>kW fr t fun p=>BQ size isAgg p bl fun v=>RU fr bl r fun l=>k (v :: l)
theorem aNZ (res:List kT):∀ (k:List V->Option β),RU fr bl res k = (aT (vD ⟨fr,bl⟩) res).bind k:=by
 induction res with
 | nil=>intro k; rfl
 | cons r res ih =>
  intro k
  cases r with
  | tmp t =>
   simp only [RU,kW,ih,aT,vD,FB]
   cases aT (vD ⟨fr,bl⟩) res <;> rfl
  | cell t size isAgg =>
   simp only [RU,kW,S0,ih,aT,vD,ID,FB,E4]
   cases NS size isAgg (lk fr .any t) (lk bl none) with
   | none=>rfl
   | some q =>
    obtain ⟨v,wr⟩:=q
    simp only [À]
    cases aT (vD ⟨fr,bl⟩) res <;> rfl
theorem aMI (k:List V->Option β):RU fr bl [] k = k []:=rfl
theorem aR6 (t:Nat) (r:List kT) (k:List V->Option β):RU fr bl (.tmp t :: r) k = kW fr t fun v=>RU fr bl r fun l=>k (v :: l):=rfl
theorem aS0 (t size:Nat) (isAgg:Bool) (r:List kT) (k:List V->Option β):RU fr bl (.cell t size isAgg :: r) k = kW fr t fun p=>BQ size isAgg p bl fun v=>RU fr bl r fun l=>k (v :: l):=rfl
def VX (dst:Option Nat) (slots:List Nat) (cs vs:List V) (k:List (Nat × V)->Option β):Option β :=
 match vs with
 | [v]=>k (PW dst v ++ slots.zip cs)
 | vs=>if vs.all V.noTup = true then k (PW dst (.tup vs) ++ slots.zip cs) else none
theorem aGv (dst:Option Nat) (slots:List Nat) (cs:List V) (v:V) (k:List (Nat × V)->Option β):VX dst slots cs [v] k = k (PW dst v ++ slots.zip cs):=rfl
theorem aIu (dst:Option Nat) (slots:List Nat) (cs:List V) (k:List (Nat × V)->Option β):VX dst slots cs [] k = k (PW dst (.tup []) ++ slots.zip cs):=rfl
theorem T4 (dst:Option Nat) (slots:List Nat) (cs:List V) (v u:V) (l:List V) (k:List (Nat × V)->Option β):VX dst slots cs (v :: u :: l) k = if (v :: u :: l).all V.noTup = true then k (PW dst (.tup (v :: u :: l)) ++ slots.zip cs) else none:=rfl
theorem aF0 (d:Nat) (v:V) (l:List (Nat × V)):PW (some d) v ++ l = (d,v) :: l:=rfl
theorem aHC (v:V) (l:List (Nat × V)):PW none v ++ l = l:=rfl
theorem aMi:([]:List Nat).zip ([]:List V) = []:=rfl
theorem aFL (t:Nat) (v:V) (l:List Nat) (r:List V):(t :: l).zip (v :: r) = (t,v) :: l.zip r:=rfl
def X3 (b:Option aO) (k:List V->Option β):Option β:=match b with
 | some (.outer cs)=>k cs
 | _=>none
theorem aMe (cs:List V) (k:List V->Option β):X3 (some (.outer cs)) k = k cs:=rfl
def aLF (dst:Option Nat) (res:List kT) (id:Nat) (slots:List Nat) (fr:List (Nat × V)) (bl:List (Nat × Option aO)) (k:List (Nat × V)->List (Nat × Option aO)->Option β):Option β :=
 bL bl id fun b=>X3 b fun cs=>RU fr bl res fun vs=>VX dst slots cs vs fun fr'=>k fr' ((id,none) :: bl)
theorem aOt (dst:Option Nat) (res:List kT) (id:Nat) (slots:List Nat) (k:List (Nat × V)->List (Nat × Option aO)->Option β):aLF dst res id slots fr bl k = bL bl id fun b=>X3 b fun cs=>RU fr bl res fun vs=>VX dst slots cs vs fun fr'=>k fr' ((id,none) :: bl):=rfl
theorem aAp (dst:Option Nat) (res:List kT) (id:Nat) (slots:List Nat) (k:St->Option β):(mS dst res id slots ⟨fr,bl⟩).bind k = aLF dst res id slots fr bl fun fr' bl'=>k ⟨fr',bl'⟩:=by
 unfold mS aLF bL
 rw [aDZ]
 cases hb:lk bl none id with
 | none=>cases aT (vD ⟨fr,bl⟩) res <;> rfl
 | some b =>
  cases b with
  | outer cs =>
   simp only [X3,aNZ]
   cases aT (vD ⟨fr,bl⟩) res with
   | none=>rfl
   | some vs =>
    simp only [À]
    cases vs with
    | nil=>rfl
    | cons v vs=>cases vs with
     | nil=>rfl
     | cons u vs =>
      rw [T4]
      show (if (v :: u :: vs).all V.noTup = true then some _ else none).bind k = _
      split <;> rfl
  | _=>cases aT (vD ⟨fr,bl⟩) res <;> rfl
def SP (dst:Option Nat) (res:List kT) (id:Nat) (slots:List Nat) (k:Ex->St->Option β):Ex->St->Option β
 | .normal,s=>(mS dst res id slots s).bind fun s4=>k .normal s4
 | .ret,s=>(mS dst res id slots s).bind fun s4=>k .normal s4
 | .exit _,_=>none
theorem aKx (dst:Option Nat) (res:List kT) (id:Nat) (slots:List Nat) (k:Ex->St->Option β):SP dst res id slots k .normal ⟨fr,bl⟩ = aLF dst res id slots fr bl fun fr' bl'=>k .normal ⟨fr',bl'⟩:=aAp dst res id slots _
theorem aJr (dst:Option Nat) (res:List kT) (id:Nat) (slots:List Nat) (k:Ex->St->Option β):SP dst res id slots k .ret ⟨fr,bl⟩ = aLF dst res id slots fr bl fun fr' bl'=>k .normal ⟨fr',bl'⟩:=aAp dst res id slots _
theorem aQd {k:Ex->St->Option β} (ops:List aY) (args:List bO) (dst:Option Nat) (f:Nat) (body:aP) (res:List kT) (id:Nat) (slots:List Nat) :
  bM T (.inl ops args dst f body res id slots) ⟨fr,bl⟩ k = uX T ops ⟨fr,bl⟩ fun s1=>inK args id slots s1 fun fr' bl'=>bM T body ⟨fr',bl'⟩ (SP dst res id slots k):=by
 rw [aQC]
 congr 1
 funext s1
 refine Eq.trans ?_ (aOb (fr:=s1.fr) (bl:=s1.bl) args id slots fun s=>bM T body s (SP dst res id slots k))
 congr 1
 funext s2
 congr 1
 funext ex s3
 cases ex <;> rfl
def L5 (keep:List Nat) (bl:List (Nat × Option aO)):List V->(List V->Option β)->Option β
 | [],k=>k []
 | v :: cs,k=>qH keep bl v fun v'=>L5 keep bl cs fun l=>k (v' :: l)
theorem aGS (keep:List Nat) (cs:List V):∀ (k:List V->Option β),L5 keep bl cs k = k (cs.map (HK keep (lk bl none))):=by
 induction cs with
 | nil=>intro k; rfl
 | cons v cs ih=>intro k; simp only [L5,qH,ih,á]
theorem aDb (keep:List Nat) (k:List V->Option β):L5 keep bl [] k = k []:=rfl
theorem aBd (keep:List Nat) (v:V) (cs:List V) (k:List V->Option β):L5 keep bl (v :: cs) k = qH keep bl v fun v'=>L5 keep bl cs fun l=>k (v' :: l):=rfl
theorem YC (keep:List Nat) (cs:List V) (k:Option aO->Option β):A5 keep bl (some (.outer cs)) k = L5 keep bl cs fun l=>k (some (.outer l)):=by rw [aGS]; rfl
end
section
variable {β:Type} {T:wF} {d:Nat} {fr:List (Nat × V)} {bl:List (Nat × Option aO)} {k:V->Option β} {kw:V->List (Nat × Option aO)->Option β}
noncomputable def nH (T:wF) (d:Nat) (bl:List (Nat × Option aO)) (f:Nat) (ds:List D) (k:V->Option β) (kw:V->List (Nat × Option aO)->Option β):Option β:=match call T f ds with
 | some (.own x es rs)=>if JM x rs = true then GD (qJ d (lk bl none) [] (.own x es rs)) k kw else none
 | _=>none
theorem aGM (f:Nat) (args:List bO):qF T d (.calln f args) fr bl k kw = RK fr bl args fun ds _=>nH T d bl f ds k kw:=by
 rw [jR,aA0]
 simp only [cE]
 cases aT (fun x=>iX (lk bl none) (bN (lk fr .any) x)) args with
 | none=>rfl
 | some ds =>
  simp only [À,nH]
  cases call T f ds with
  | none=>rfl
  | some y =>
   cases y with
   | own x es rs=>simp only; split <;> rfl
   | _=>rfl
theorem aHh (f:Nat) (args:List bO) (k:List Nat->Option β):EY d (.calln f args) fr bl k = EP fr bl args k:=by
 rw [JK]; rfl
theorem fK {x:D} {rs:List (List (List D))} (h1:aEZ x = true) (h2:rs.all rN = true):JM x rs = true:=by simp only [JM,h1,h2,Bool.and_self]
theorem m8 {r:List (List D)} {rs:List (List (List D))} (h1:rN r = true) (h2:rs.all rN = true):(r :: rs).all rN = true:=by simp only [ħ,h1,h2,Bool.and_self]
theorem hJ {α:Type} {f:Nat} {ds:List D} {o:Option α} {y:α->D} {p:Nat × Nat} {es:List (Nat × Nat)} {r:α->List (List D)} {rs:α->List (List (List D))} (h:call T f ds = o.map fun x=>.own (y x) (p :: es) (r x :: rs x)) (hn:∀ x,JM (y x) (r x :: rs x) = true) :
  nH T d bl f ds k kw = o.bind fun x=>aET bl (gY d 0 (p :: es) (r x :: rs x)) (kw (thaw d (y x)) (gY d 0 (p :: es) (r x :: rs x))):=by
 unfold nH
 rw [h]
 cases o with
 | none=>rfl
 | some x =>
  simp only [Ù,À,qJ,aBp,hn x,Ë,ý]
  split
  ·obtain ⟨e,s⟩:=p; rfl
  ·rfl
end
end Vm
end
section
namespace Vm
open Go.RowKit
section
variable {β:Type} {T:wF} {d:Nat} {fr:List (Nat × V)} {bl:List (Nat × Option aO)} {k:V->Option β} {kw:V->List (Nat × Option aO)->Option β}
def V2 (b:Option aO) (x:Option β):Option β:=match b with
 | some (.box _)=>x
 | some (.fbox _)=>x
 | _=>none
theorem aHL (cs:List V) (x:Option β):V2 (some (.box cs)) x = x:=rfl
theorem aCD (cs:List D) (x:Option β):V2 (some (.fbox cs)) x = x:=rfl
def aSh:Option aO->Bool
 | some (.box _)=>true
 | some (.fbox _)=>true
 | _=>false
theorem aLM (b:Option aO) (x:Option β):V2 b x = if aSh b = true then x else none:=by
 cases b with
 | none=>rfl
 | some b=>cases b <;> rfl
def aJK (v:V) (bl:List (Nat × Option aO)) (k:V->Option β):Option β:=match v with
 | .ptr id off=>bL bl id fun b=>V2 b (k (.ptr id off))
 | _=>none
theorem aML (id off:Nat):aJK (.ptr id off) bl k = bL bl id fun b=>V2 b (k (.ptr id off)):=rfl
def LU (fr:List (Nat × V)) (bl:List (Nat × Option aO)):List bO->(List V->Option β)->Option β
 | [],k=>k []
 | x :: l,k=>bR fr x fun v=>aJK v bl fun u=>LU fr bl l fun us=>k (u :: us)
theorem aEh (k:List V->Option β):LU fr bl [] k = k []:=rfl
theorem QR (x:bO) (l:List bO) (k:List V->Option β):LU fr bl (x :: l) k = bR fr x fun v=>aJK v bl fun u=>LU fr bl l fun us=>k (u :: us):=rfl
theorem aQA (v:V):aJK v bl k = if P1 (lk bl none) v = true then k v else none:=by
 cases v with
 | ptr id off =>
  show V2 (lk bl none id) (k (.ptr id off)) = if P1 (lk bl none) (.ptr id off) = true then _ else _
  have:P1 (lk bl none) (.ptr id off) = aSh (lk bl none id):=by
   show (match lk bl none id with | some (.box _)=>true | some (.fbox _)=>true | _=>false) = aSh (lk bl none id)
   cases lk bl none id with
   | none=>rfl
   | some b=>cases b <;> rfl
  rw [this]
  exact aLM _ _
 | _=>rfl
theorem aGy (l:List bO):∀ (k:List V->Option β),LU fr bl l k = if (l.map (bN (lk fr .any))).all (P1 (lk bl none)) = true then k (l.map (bN (lk fr .any))) else none:=by
 induction l with
 | nil=>intro k; rfl
 | cons x l ih =>
  intro k
  rw [QR]
  unfold bR
  show aJK (bN (lk fr .any) x) bl (fun u=>LU fr bl l fun us=>k (u :: us)) = _
  rw [aQA,á,ħ]
  cases P1 (lk bl none) (bN (lk fr .any) x) with
  | false=>rfl
  | true =>
   rw [Â rfl,ih,ĝ]
theorem aH4 (f:Nat) (caps:List bO):qF T d (.mkfnv f caps) fr bl k kw = LU fr bl caps fun vs=>k (.fn f vs):=by
 rw [aGy]
 unfold qF
 simp only [cE]
 split
 ·rename_i h
  split at h
  ·cases h
  ·rename_i hc; rw [Ã hc]
 ·rename_i v h
  split at h
  ·rename_i hc
   cases h
   rw [Â hc]
  ·cases h
 ·rename_i v p wr h
  split at h
  ·cases h
  ·cases h
theorem aIj (f:Nat) (vs:List V) (k:List V->Option β):xJ (.fn f vs) k = k [.fn f vs]:=rfl
def aDY (keep:List Nat) (id:Nat) (b:Option aO) (x y:Option β):Option β:=match b with
 | some (.box _)=>fU keep id x y
 | _=>y
theorem aLn (keep:List Nat) (id:Nat) (cs:List V) (x y:Option β):aDY keep id (some (.box cs)) x y = fU keep id x y:=rfl
theorem aIc (keep:List Nat) (id:Nat) (cs:List D) (x y:Option β):aDY keep id (some (.fbox cs)) x y = y:=rfl
theorem aG4 (keep:List Nat) (id:Nat) (x y:Option β):aDY keep id none x y = y:=rfl
def aOD (keep:List Nat) (id:Nat):Option aO->Bool
 | some (.box _)=>keep.contains id
 | _=>false
theorem aPt (keep:List Nat) (id:Nat) (b:Option aO) (x y:Option β):aDY keep id b x y = if aOD keep id b = true then x else y:=by
 cases b with
 | none=>rfl
 | some b=>cases b <;> rfl
def fnK (keep:List Nat) (bl:List (Nat × Option aO)):List V->Option β->Option β->Option β
 | [],x,_=>x
 | .ptr id _ :: l,x,y=>bL bl id fun b=>aDY keep id b (fnK keep bl l x y) y
 | _ :: _,_,y=>y
theorem aO2 (keep:List Nat) (x y:Option β):fnK keep bl [] x y = x:=rfl
theorem aE5 (keep:List Nat) (id off:Nat) (l:List V) (x y:Option β):fnK keep bl (.ptr id off :: l) x y = bL bl id fun b=>aDY keep id b (fnK keep bl l x y) y:=rfl
theorem aIH (keep:List Nat) (x y:Option β):∀ l:List V,fnK keep bl l x y = if l.all (aEv keep (lk bl none)) = true then x else y
 | []=>rfl
 | v :: l=>by
  rw [ħ]
  cases v with
  | ptr id off =>
   rw [aE5]
   show aDY keep id (lk bl none id) (fnK keep bl l x y) y = _
   have:aEv keep (lk bl none) (.ptr id off) = aOD keep id (lk bl none id):=by
    show (match lk bl none id with | some (.box _)=>keep.contains id | _=>false) = aOD keep id (lk bl none id)
    cases lk bl none id with
    | none=>rfl
    | some b=>cases b <;> rfl
   rw [aPt,aIH keep x y l,this]
   cases aOD keep id (lk bl none id) <;> rfl
  | _=>rfl
theorem aIS (keep:List Nat) (f:Nat) (vs:List V):qH keep bl (.fn f vs) k = fnK keep bl vs (k (.fn f vs)) (k .any):=by
 rw [aIH]
 unfold qH
 simp only [HK,QW,uI]
 split <;> rfl
theorem aHg (keep:List Nat) (f:Nat) (vs cs:List V) (k:List V->Option β):rX keep bl (.fn f vs :: cs) k = qH keep bl (.fn f vs) fun v=>rX keep bl cs fun l=>k (v :: l):=by simp only [t9]; rfl
def TF (f nc:Nat) (v:V) (k:List V->Option β):Option β:=(EU f nc v).bind k
theorem aFT (f nc g:Nat) (vs:List V) (k:List V->Option β):TF f nc (.fn g vs) k = if g = f ∧ vs.length = nc then k vs else none:=by
 unfold TF EU
 simp only
 split <;> rfl
def aTC (x:bO) (nc f:Nat) (args:List bO) (id:Nat) (slots:List Nat) (fr:List (Nat × V)) (bl:List (Nat × Option aO)) (k:List (Nat × V)->List (Nat × Option aO)->Option β):Option β :=
 bR fr x fun v=>TF f nc v fun caps=>bL bl id fun b=>gA b (ER fr slots fun cs=>HQ fr args fun vs=>k (s8 0 (vs ++ caps)) ((id,some (.outer cs)) :: bl))
def aUI (x:bO) (nc f:Nat) (args:List bO) (id:Nat) (slots:List Nat) (s:St) (k:List (Nat × V)->List (Nat × Option aO)->Option β):Option β:=aTC x nc f args id slots s.fr s.bl k
theorem aE9 (x:bO) (nc f:Nat) (args:List bO) (id:Nat) (slots:List Nat) (k:List (Nat × V)->List (Nat × Option aO)->Option β):aUI x nc f args id slots ⟨fr,bl⟩ k = bR fr x fun v=>TF f nc v fun caps=>bL bl id fun b=>gA b (ER fr slots fun cs=>HQ fr args fun vs=>k (s8 0 (vs ++ caps)) ((id,some (.outer cs)) :: bl)):=rfl
theorem aMW {k:Ex->St->Option β} (ops:List aY) (x:bO) (nc:Nat) (args:List bO) (dst:Option Nat) (f:Nat) (body:aP) (res:List kT) (id:Nat) (slots:List Nat) (s:St) :
  bM T (.inlv ops x nc args dst f body res id slots) s k = uX T ops s fun s1=>(EU f nc (bN s1.get x)).bind fun caps=>(GX (args.map (bN s1.get) ++ caps) id slots s1).bind fun s2=>bM T body s2 fun ex s3=>match ex with
   | .exit _=>none
   | _=>(mS dst res id slots s3).bind fun s4=>k .normal s4:=by
 unfold bM uX
 rw [aNN]
 cases j5 (call T) ops s with
 | none=>rfl
 | some s1 =>
  simp only [À]
  cases EU f nc (bN s1.get x) with
  | none=>rfl
  | some caps =>
   simp only [À]
   cases GX (args.map (bN s1.get) ++ caps) id slots s1 with
   | none=>rfl
   | some s2 =>
    simp only [À]
    cases ev T body s2 with
    | none=>rfl
    | some q =>
     obtain ⟨e,s3⟩:=q
     cases e with
     | normal=>simp only [À]; cases mS dst res id slots s3 <;> rfl
     | exit i=>rfl
     | ret=>simp only [À]; cases mS dst res id slots s3 <;> rfl
theorem aJY {k:Ex->St->Option β} (ops:List aY) (x:bO) (nc:Nat) (args:List bO) (dst:Option Nat) (f:Nat) (body:aP) (res:List kT) (id:Nat) (slots:List Nat) :
  bM T (.inlv ops x nc args dst f body res id slots) ⟨fr,bl⟩ k = uX T ops ⟨fr,bl⟩ fun s1=>aUI x nc f args id slots s1 fun fr' bl'=>bM T body ⟨fr',bl'⟩ (SP dst res id slots k):=by
 rw [aMW]
 congr 1
 funext s1
 obtain ⟨fr1,bl1⟩:=s1
 rw [aE9]
 unfold bR TF
 show (EU f nc (bN (lk fr1 .any) x)).bind _ = (EU f nc (bN (lk fr1 .any) x)).bind _
 congr 1
 funext caps
 unfold GX bL gA
 rw [aDZ]
 cases hb:lk bl1 none id with
 | some b=>rfl
 | none =>
  simp only [Option.isNone_none,Ë,À,V8,OH]
  congr 1
  funext ex s3
  cases ex <;> rfl
theorem aOV (f:Nat) (vs:List V) (k:List Nat->Option β):FX (.fn f vs) k = k []:=rfl
theorem aJG (f:Nat) (vs:List V) (k:List Nat->Option β):BN bl (.fn f vs) k = k []:=rfl
theorem aHN (f:Nat) (vs cs:List V) (k:List Nat->Option β):tM bl (.fn f vs :: cs) k = tM bl cs k:=by simp only [xX]; rfl
theorem aIq (f:Nat) (vs cs:List V) (k:List Nat->Option β):tH (.fn f vs :: cs) k = tH cs k:=by simp only [xW]; rfl
end
end Vm
end
section
namespace Vm
open Go.RowKit Vm
def NQ (rows:List (List D)):Bool:=rows.all fun row=>row.all D.atom
def Y5 (E size bytes:Nat):List D->Option D
 | [.sl rows]=>if sized size rows = true ∧ NQ rows = true ∧ rows.length * bytes <= 140737488355328 then some (.own (.ref 0) [(E,size)] [rows]) else none
 | _=>none
theorem aKJ {α:Type} (c:α->List D) (xs:List α) (h:∀ x,(c x).all D.atom = true):NQ (cM c xs) = true:=by
 unfold NQ cM
 rw [Ì]
 intro row hr
 obtain ⟨x,_,rfl⟩:=Þ.1 hr
 exact h x
end Vm
end
end Go.Proofs.YtoefdnkjcfoccaaDoor
