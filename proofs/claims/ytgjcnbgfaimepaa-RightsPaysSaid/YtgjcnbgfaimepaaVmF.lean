/- The small machine, read from the front: slices that are laid out, calls, masks, answers. The small machine, read from the front: regions whose order is drawn. The small machine, read from the front: slices that are lent, cut, cleared. The small machine, read from the front: function values that hold boxes. slices.Clone: what it is told to answer. -/
import Derived.Test.YtgjcnbgfaimepaaVmE
set_option linter.unusedVariables false
set_option linter.unusedSimpArgs false
namespace Go.Proofs.Ytgjcnbgfaimepaa
theorem zA.{u} {α:Type u} {a:α} {l:List α}:(a::l).length = l.length + 1:=rfl
theorem zB.{u} {α:Type u}:([]:List α).length = 0:=rfl
theorem zC:(!true) = false:=rfl
theorem zD:(!false) = true:=rfl
theorem zE.{u} {α:Type u} {n:Nat} {a:α}:List.replicate (n + 1) a = a::List.replicate n a:=rfl
theorem zF.{u} {α:Type u} {a:α}:List.replicate 0 a = []:=rfl
theorem zG.{u,v} {α:Type u} {β:Type v} (a:α) (f:α->Option β):(some a).bind f = f a:=rfl
theorem zH.{u,v} {α:Type u} {β:Type v} (a:α) (f:α->β):(some a).map f = some (f a):=rfl
theorem zI.{u,v} {α:Type u} {β:Type v} (f:α->β):(none:Option α).map f = none:=rfl
theorem zJ.{u,v,w} {α:Type u} {β:Type v} {γ:Sort w} (f:α->γ) (g:β->γ) (x:α):Sum.elim f g (Sum.inl x) = f x:=rfl
theorem zK.{u,v,w} {α:Type u} {β:Type v} {γ:Sort w} (f:α->γ) (g:β->γ) (x:β):Sum.elim f g (Sum.inr x) = g x:=rfl
theorem zL.{u,v,w} {α:Type u} {β:Type v} {γ:Type w} (x:Option α) (f:α->Option β) (g:β->Option γ):(x.bind f).bind g = x.bind fun y=>(f y).bind g:=Option.bind_assoc x f g
theorem zM.{u} {α:Type u} [BEq α] [ReflBEq α] (a:α):(a == a) = true:=beq_self_eq_true a
theorem zN:(¬False) = True:=not_false_eq_true
namespace Vm
open Go.RowKit
section
variable {β:Type} {T:vZ} {d:Nat} {fr:List (Nat × V)} {bl:List (Nat × Option aJ)} {k:V->Option β} {kw:V->List (Nat × Option aJ)->Option β}
def wG (bl:List (Nat × Option aJ)):List V->(List D->List (Nat × Option aJ)->Option β)->Option β
 | [],k=>k [] []
 | v :: cs,k=>(iN (lk bl none) v).bind fun x=>wG bl cs fun ds f=>k (x :: ds) (AX (lk bl none) v ++ f)
theorem MV (cs:List V) (k:List D->List (Nat × Option aJ)->Option β):wG bl cs k = (aM (iN (lk bl none)) cs).bind fun ds=>k ds (cs.flatMap (AX (lk bl none))):=by
 induction cs generalizing k with
 | nil=>rfl
 | cons v cs ih =>
  simp only [wG,aM,ih,List.flatMap_cons]
  cases iN (lk bl none) v with
  | none=>rfl
  | some x=>cases aM (iN (lk bl none)) cs <;> rfl
def RR (v:V) (bl:List (Nat × Option aJ)) (k:D->List (Nat × Option aJ)->Option β):Option β:=(iN (lk bl none) v).bind fun x=>k x (AX (lk bl none) v)
theorem aSN (x:D) (k:D->List (Nat × Option aJ)->Option β):RR (.d x) bl k = k x []:=rfl
theorem aON (k:D->List (Nat × Option aJ)->Option β):RR .nil bl k = k (.sl []) []:=rfl
def d1B (id ver:Nat) (b:Option aJ) (k:D->List (Nat × Option aJ)->Option β):Option β:=match b with
 | some (.rows v _ _ rows)=>if ver = v then k (.sl rows) [(id,some (.froz v rows))] else none
 | some (.froz v rows)=>if ver = v then k (.sl rows) [] else none
 | _=>none
theorem aNQ (id ver:Nat) (k:D->List (Nat × Option aJ)->Option β):RR (.own id ver) bl k = bC bl id fun b=>d1B id ver b k:=by
 unfold RR bC d1B
 simp only [iN,AX,rD,IY]
 generalize lk bl none id = b
 cases b with
 | none=>rfl
 | some b=>cases b with
  | rows v e s rows=>simp only; by_cases h:ver = v <;> simp [h]
  | froz v rows=>simp only; by_cases h:ver = v <;> simp [h]
  | _=>rfl
theorem aJf (id v e s:Nat) (rows:List (List D)) (k:D->List (Nat × Option aJ)->Option β):d1B id v (some (.rows v e s rows)) k = k (.sl rows) [(id,some (.froz v rows))]:=if_pos rfl
theorem aKD (id v:Nat) (rows:List (List D)) (k:D->List (Nat × Option aJ)->Option β):d1B id v (some (.froz v rows)) k = k (.sl rows) []:=if_pos rfl
def tJ (bl:List (Nat × Option aJ)):List V->(List D->List (Nat × Option aJ)->Option β)->Option β
 | [],k=>k [] []
 | v :: cs,k=>(rD (lk bl none) v).bind fun x=>tJ bl cs fun ds f=>k (x :: ds) (IY (lk bl none) v ++ f)
theorem aFD (cs:List V) (k:List D->List (Nat × Option aJ)->Option β):tJ bl cs k = (aM (rD (lk bl none)) cs).bind fun ds=>k ds (cs.flatMap (IY (lk bl none))):=by
 induction cs generalizing k with
 | nil=>rfl
 | cons v cs ih =>
  simp only [tJ,aM,ih,List.flatMap_cons]
  cases rD (lk bl none) v with
  | none=>rfl
  | some x=>cases aM (rD (lk bl none)) cs <;> rfl
theorem aCN (k:List D->List (Nat × Option aJ)->Option β):tJ bl [] k = k [] []:=rfl
theorem aJ8 (x:D) (cs:List V) (k:List D->List (Nat × Option aJ)->Option β):tJ bl (.d x :: cs) k = tJ bl cs fun ds f=>k (x :: ds) f:=rfl
theorem aHV (cs:List V) (k:List D->List (Nat × Option aJ)->Option β):tJ bl (.nil :: cs) k = tJ bl cs fun ds f=>k (.sl [] :: ds) f:=rfl
theorem aDn (id ver:Nat) (cs:List V) (k:List D->List (Nat × Option aJ)->Option β):tJ bl (.own id ver :: cs) k = RR (.own id ver) bl fun x g=>tJ bl cs fun ds f=>k (x :: ds) (g ++ f):=rfl
theorem J4 (ds:List D) (k:List D->List (Nat × Option aJ)->Option β):tJ bl (aO ds) k = k ds []:=by
 have:∀ (ds:List D) (k:List D->List (Nat × Option aJ)->Option β),tJ bl (aO ds) k = k ds []:=by
  intro ds
  induction ds with
  | nil=>intro k; rfl
  | cons x ds ih=>intro k; show tJ bl (aO ds) _ = _; rw [ih]; rfl
 exact this ds k
def d1P (id off:Nat) (b:Option aJ) (bl:List (Nat × Option aJ)) (k:D->List (Nat × Option aJ)->Option β):Option β:=match b with
 | some (.box cs)=>tJ bl cs fun ds f=>k (.ptr ds off) ((id,some (.fbox ds)) :: f)
 | some (.fbox ds)=>k (.ptr ds off) []
 | _=>none
theorem aPR (id off:Nat) (k:D->List (Nat × Option aJ)->Option β):RR (.ptr id off) bl k = bC bl id fun b=>d1P id off b bl k:=by
 unfold RR bC d1P
 simp only [iN,AX]
 cases lk bl none id with
 | none=>rfl
 | some b=>cases b with
  | box cs =>
   simp only [aFD]
   cases aM (rD (lk bl none)) cs <;> rfl
  | _=>rfl
theorem aMy (id off:Nat) (c:V) (cs:List V) (k:D->List (Nat × Option aJ)->Option β):d1P id off (some (.box (c :: cs))) bl k = tJ bl (c :: cs) fun ds f=>k (.ptr ds off) ((id,some (.fbox ds)) :: f):=rfl
theorem aA7 (id off:Nat) (ds:List D) (k:D->List (Nat × Option aJ)->Option β):d1P id off (some (.box (aO ds))) bl k = k (.ptr ds off) [(id,some (.fbox ds))]:=by
 show tJ bl (aO ds) _ = _
 rw [J4]
theorem aJD (id off:Nat) (ds:List D) (k:D->List (Nat × Option aJ)->Option β):d1P id off (some (.fbox ds)) bl k = k (.ptr ds off) []:=rfl
theorem aEW (id off:Nat) (cs:List V) (k:List D->List (Nat × Option aJ)->Option β):wG bl (.ptr id off :: cs) k = RR (.ptr id off) bl fun x g=>wG bl cs fun ds f=>k (x :: ds) (g ++ f):=rfl
theorem aFr (k:List D->List (Nat × Option aJ)->Option β):wG bl [] k = k [] []:=rfl
theorem aPP (x:D) (cs:List V) (k:List D->List (Nat × Option aJ)->Option β):wG bl (.d x :: cs) k = wG bl cs fun ds f=>k (x :: ds) f:=rfl
theorem aOe (cs:List V) (k:List D->List (Nat × Option aJ)->Option β):wG bl (.nil :: cs) k = wG bl cs fun ds f=>k (.sl [] :: ds) f:=rfl
theorem aG7 (id ver:Nat) (cs:List V) (k:List D->List (Nat × Option aJ)->Option β):wG bl (.own id ver :: cs) k = RR (.own id ver) bl fun x g=>wG bl cs fun ds f=>k (x :: ds) (g ++ f):=rfl
theorem F2 (ds:List D) (k:List D->List (Nat × Option aJ)->Option β):wG bl (aO ds) k = k ds []:=by
 have:∀ (ds:List D) (k:List D->List (Nat × Option aJ)->Option β),wG bl (aO ds) k = k ds []:=by
  intro ds
  induction ds with
  | nil=>intro k; rfl
  | cons x ds ih=>intro k; show wG bl (aO ds) _ = _; rw [ih]; rfl
 exact this ds k
def B0 (v:V) (bl:List (Nat × Option aJ)) (k:D->List (Nat × Option aJ)->Option β):Option β:=(iP (lk bl none) v).bind fun x=>k x (vT (lk bl none) v)
theorem aQw (x:D) (k:D->List (Nat × Option aJ)->Option β):B0 (.d x) bl k = k x []:=rfl
theorem aLI (k:D->List (Nat × Option aJ)->Option β):B0 .nil bl k = k (.sl []) []:=rfl
theorem aJE (id ver:Nat) (k:D->List (Nat × Option aJ)->Option β):B0 (.own id ver) bl k = RR (.own id ver) bl k:=rfl
theorem aJR (id off:Nat) (k:D->List (Nat × Option aJ)->Option β):B0 (.ptr id off) bl k = RR (.ptr id off) bl k:=rfl
theorem ZK (cs:List V) (k:D->List (Nat × Option aJ)->Option β):B0 (.agg cs) bl k = wG bl cs fun ds f=>k (.agg ds) f:=by
 rw [MV]
 show ((aM (iN (lk bl none)) cs).map D.agg).bind _ = _
 cases aM (iN (lk bl none)) cs <;> rfl
theorem aFy (ds:List D) (k:D->List (Nat × Option aJ)->Option β):B0 (iX ds) bl k = k (.agg ds) []:=by
 show B0 (.agg (aO ds)) bl k = _
 rw [ZK,F2]
theorem aQu (x:D) (k:List D->List (Nat × Option aJ)->Option β):L3 (.d x) bl k = k [x] []:=rfl
theorem XB (cs:List V) (k:List D->List (Nat × Option aJ)->Option β):L3 (.agg cs) bl k = wG bl cs k:=by
 rw [MV]
 show (match aM (iN (lk bl none)) cs with | some row=>k row (cs.flatMap (AX (lk bl none))) | none=>none) = _
 cases aM (iN (lk bl none)) cs <;> rfl
theorem aHo (ds:List D) (k:List D->List (Nat × Option aJ)->Option β):L3 (iX ds) bl k = k ds []:=by
 show L3 (.agg (aO ds)) bl k = _
 rw [XB,F2]
theorem aLb (k:List D->List (Nat × Option aJ)->Option β):L3 .nil bl k = k [.sl []] []:=rfl
theorem aIA (id ver:Nat) (k:List D->List (Nat × Option aJ)->Option β):L3 (.own id ver) bl k = RR (.own id ver) bl fun x f=>k [x] f:=by
 unfold L3 RR
 show (match aM (iN (lk bl none)) [.own id ver] with | some row=>k row (AX (lk bl none) (.own id ver)) | none=>none) = _
 simp only [aM]
 cases iN (lk bl none) (.own id ver) <;> rfl
def aAj (rs:List (List D)) (i:Nat) (row:List D) (k:List (List D)->Option β):Option β:=if i < rs.length then k (rs.set i row) else none
theorem aRK (r:List D) (rs:List (List D)) (row:List D) (k:List (List D)->Option β):aAj (r :: rs) 0 row k = k (row :: rs):=by simp [aAj]
theorem aR5 (r:List D) (rs:List (List D)) (i:Nat) (row:List D) (k:List (List D)->Option β):aAj (r :: rs) (i + 1) row k = aAj rs i row fun l=>k (r :: l):=by
 unfold aAj
 simp only [List.length_cons,List.set_cons_succ]
 by_cases h:i < rs.length
 ·rw [if_pos h,if_pos (by omega)]
 ·rw [if_neg h,if_neg (by omega)]
def bsF (fr:List (Nat × V)) (bl:List (Nat × Option aJ)) (size:Nat) (rs:List (List D)):List (Nat × bL)->List (Nat × Option aJ)->(List (List D)->List (Nat × Option aJ)->Option β)->Option β
 | [],wr,k=>k rs wr
 | (i,x) :: r,wr,k=>bW fr x fun v=>L3 v bl fun row f=>oR row size (aAj rs i row fun rs'=>bsF fr bl size rs' r (wr ++ f) k)
theorem aO3 (size:Nat) (rs:List (List D)) (wr:List (Nat × Option aJ)) (k:List (List D)->List (Nat × Option aJ)->Option β):bsF fr bl size rs [] wr k = k rs wr:=rfl
theorem aLf (size:Nat) (rs:List (List D)) (i:Nat) (x:bL) (r:List (Nat × bL)) (wr:List (Nat × Option aJ)) (k:List (List D)->List (Nat × Option aJ)->Option β):bsF fr bl size rs ((i,x) :: r) wr k = bW fr x fun v=>L3 v bl fun row f=>oR row size (aAj rs i row fun rs'=>bsF fr bl size rs' r (wr ++ f) k):=rfl
theorem aRw (size:Nat) (parts:List (Nat × bL)):∀ (rs:List (List D)) (wr:List (Nat × Option aJ)) (k:List (List D)->List (Nat × Option aJ)->Option β),bsF fr bl size rs parts wr k = (k9 (lk bl none) size rs (parts.map fun p=>(p.1,bJ (lk fr .any) p.2))).bind fun rs'=>k rs' (wr ++ parts.flatMap fun p=>vT (lk bl none) (bJ (lk fr .any) p.2)):=by
 induction parts with
 | nil=>intro rs wr k; simp [bsF,k9]
 | cons p r ih =>
  intro rs wr k
  obtain ⟨i,x⟩:=p
  simp only [bsF,bW,L3,List.map_cons,k9,List.flatMap_cons]
  cases aM (iN (lk bl none)) (bJ (lk fr .any) x).cells with
  | none=>rfl
  | some row =>
   simp only [oR,aAj]
   by_cases h1:row.length = size
   ·by_cases h2:i < rs.length
    ·rw [if_pos h1,if_pos h2,if_pos ⟨h1,h2⟩,ih,List.append_assoc]
    ·rw [if_pos h1,if_neg h2,if_neg (fun q=>h2 q.2)]; rfl
   ·rw [if_neg h1,if_neg (fun q=>h1 q.1)]; rfl
theorem QE (e size n:Nat) (z:List D) (parts:List (Nat × bL)):rI T d (.buildSlice e size z n parts) fr bl k kw = bC bl d fun b=>fU b (bsF fr bl size (List.replicate n z) parts [] fun rows wr=>M5 e rows fun rows=>kw (.own d 0) ((d,some (.rows 0 e size rows)) :: wr)):=by
 rw [iY]
 unfold bC fU M5
 simp only [cE,aRw,List.nil_append]
 cases lk bl none d with
 | some b=>rfl
 | none =>
  simp only
  have e1:(parts.map fun x=>match x with | (i,x)=>(i,bJ (lk fr .any) x)) = parts.map fun p=>(p.1,bJ (lk fr .any) p.2):=rfl
  have e2:(parts.flatMap fun x=>match x with | (_,x)=>vT (lk bl none) (bJ (lk fr .any) x)) = parts.flatMap fun p=>vT (lk bl none) (bJ (lk fr .any) p.2):=rfl
  rw [e1,e2]
  cases k9 (lk bl none) size (List.replicate n z) (parts.map fun p=>(p.1,bJ (lk fr .any) p.2)) <;> rfl
theorem S3 {α:Type} (e size bytes:Nat) (z:List D) (c:α->List D) (x:α) (hz:z = c x) (l cp:bL):rI T d (.makeSlice e size bytes z l cp) fr bl k kw = bC bl d fun b=>fU b (bW fr l fun a=>bW fr cp fun b=>match a,b with
   | .d (.int _ n),.d (.int _ m)=>if 0 <= n ∧ n <= m ∧ (bytes:Int) * m <= 281474976710656 ∧ m <= 9223372036854775807 then kw (.own d 0) [(d,some (.rows 0 e size (cM c (List.replicate n.toNat x))))] else none
   | _,_=>none):=by
 subst hz
 rw [iY]
 unfold bC fU bW
 simp only [cE,VT]
 generalize bJ (lk fr .any) l = a
 generalize bJ (lk fr .any) cp = b
 cases lk bl none d with
 | some b=>rfl
 | none =>
  simp only
  split
  ·rename_i n _ m
   simp only
   by_cases h:0 <= n ∧ n <= m ∧ (bytes:Int) * m <= 281474976710656 ∧ m <= 9223372036854775807
   ·rw [if_pos h,if_pos h]; rfl
   ·rw [if_neg h,if_neg h]; rfl
  ·rename_i h
   split
   ·rename_i n _ m
    exact absurd rfl (h _ _ _ _ rfl)
   ·rfl
def OI (fr:List (Nat × V)) (bl:List (Nat × Option aJ)):List bL->(List D->List (Nat × Option aJ)->Option β)->Option β
 | [],k=>k [] []
 | x :: l,k=>bW fr x fun v=>B0 v bl fun y f=>OI fr bl l fun ds g=>k (y :: ds) (f ++ g)
theorem aHq (k:List D->List (Nat × Option aJ)->Option β):OI fr bl [] k = k [] []:=rfl
theorem aB5 (x:bL) (l:List bL) (k:List D->List (Nat × Option aJ)->Option β):OI fr bl (x :: l) k = bW fr x fun v=>B0 v bl fun y f=>OI fr bl l fun ds g=>k (y :: ds) (f ++ g):=rfl
theorem XR (l:List bL) (k:List D->List (Nat × Option aJ)->Option β):OI fr bl l k = (aM (fun x=>iP (lk bl none) (bJ (lk fr .any) x)) l).bind fun ds=>k ds (l.flatMap fun x=>vT (lk bl none) (bJ (lk fr .any) x)):=by
 induction l generalizing k with
 | nil=>rfl
 | cons x l ih =>
  simp only [OI,bW,B0,aM,ih,List.flatMap_cons]
  cases iP (lk bl none) (bJ (lk fr .any) x) with
  | none=>rfl
  | some y=>cases aM (fun x=>iP (lk bl none) (bJ (lk fr .any) x)) l <;> rfl
def fzK (fz:List (Nat × Option aJ)) (v:V) (k:V->Option β) (kw:V->List (Nat × Option aJ)->Option β):Option β:=match fz with
 | []=>k v
 | p :: w=>kw v (p :: w)
theorem aMh (v:V):fzK [] v k kw = k v:=rfl
theorem aRi (l:List (Nat × Option aJ)) (v:V):fzK ([] ++ l) v k kw = fzK l v k kw:=rfl
theorem aQ6 (p:Nat × Option aJ) (w l:List (Nat × Option aJ)) (v:V):fzK ((p :: w) ++ l) v k kw = kw v ((p :: w) ++ l):=rfl
theorem aLt (p:Nat × Option aJ) (w:List (Nat × Option aJ)) (v:V):fzK (p :: w) v k kw = kw v (p :: w):=rfl
noncomputable def tT (T:vZ) (d:Nat) (bl:List (Nat × Option aJ)) (f:Nat) (ds:List D) (fz:List (Nat × Option aJ)) (k:V->Option β) (kw:V->List (Nat × Option aJ)->Option β):Option β:=match call T f ds with
 | none=>none
 | some r=>FN (oG d (lk bl none) fz r) k kw
theorem aLT (f:Nat) (args:List bL):rI T d (.call f args) fr bl k kw = OI fr bl args fun ds fz=>tT T d bl f ds fz k kw:=by
 rw [iY,XR]
 simp only [cE]
 cases aM (fun x=>iP (lk bl none) (bJ (lk fr .any) x)) args with
 | none=>rfl
 | some ds =>
  simp only [Option.bind_some,tT]
  cases call T f ds <;> rfl
def D.calm:D->Bool
 | .own _ _ _=>false
 | _=>true
theorem aDW {x:D} (h:x.calm = true):∀ y es rs,x ≠ .own y es rs:=fun y es rs e=>by rw [e] at h; cases h
theorem aGB {x:D} (h:HK x = true):x.calm = true:=by cases x <;> first | rfl | cases h
theorem aCi {α:Type} {f:Nat} {ds:List D} {o:Option α} {enc:α->D} (h:call T f ds = o.map enc) (hf:∀ x,HK (enc x) = true) (fz:List (Nat × Option aJ)):tT T d bl f ds fz k kw = o.bind fun x=>k (toV (enc x)):=by
 unfold tT
 rw [h]
 cases o with
 | none=>rfl
 | some x=>simp only [Option.map_some,Option.bind_some]; rw [E5 (aDW (aGB (hf x))),if_pos (hf x)]; rfl
theorem aB3 {α:Type} {f:Nat} {ds:List D} {o:Option α} {enc:α->D} (h:call T f ds = o.map enc) (hf:∀ x,HK (enc x) = false) (hc:∀ x,(enc x).calm = true) (fz:List (Nat × Option aJ)):tT T d bl f ds fz k kw = o.bind fun x=>fzK fz (toV (enc x)) k kw:=by
 unfold tT
 rw [h]
 cases o with
 | none=>rfl
 | some x=>simp only [Option.map_some,Option.bind_some]; rw [E5 (aDW (hc x)),if_neg (by rw [hf x]; decide)]; cases fz <;> rfl
def ZP (bl:List (Nat × Option aJ)):List (Nat × Option aJ)->Option β->Option β
 | [],x=>x
 | (i,_) :: l,x=>bC bl i fun b=>fU b (ZP bl l x)
theorem RQ (bl:List (Nat × Option aJ)) (x:Option β):∀ (l:List (Nat × Option aJ)),ZP bl l x = if MX (lk bl none) l = true then x else none
 | []=>rfl
 | (i,b) :: l=>by
  cases h:lk bl none i <;> simp [ZP,MX,bC,fU,RQ bl x l,h]
theorem IZ {α:Type} {f:Nat} {ds:List D} {o:Option α} {y:α->D} {p:Nat × Nat} {es:List (Nat × Nat)} {r:α->List (List D)} {rs:α->List (List (List D))} (h:call T f ds = o.map fun x=>.own (y x) (p :: es) (r x :: rs x)) (fz:List (Nat × Option aJ)) :
  tT T d bl f ds fz k kw = o.bind fun x=>ZP bl (fH d 0 (p :: es) (r x :: rs x)) (kw (thaw d (y x)) (fH d 0 (p :: es) (r x :: rs x) ++ fz)):=by
 unfold tT
 rw [h]
 cases o with
 | none=>rfl
 | some x =>
  simp only [Option.map_some,Option.bind_some,oG,RQ]
  split
  ·obtain ⟨e,s⟩:=p; rfl
  ·rfl
def RB (fr:List (Nat × V)) (bl:List (Nat × Option aJ)):List bL->(List D->List (Nat × Option aJ)->Option β)->Option β
 | [],k=>k [] []
 | x :: l,k=>bW fr x fun v=>RR v bl fun y f=>RB fr bl l fun ds g=>k (y :: ds) (f ++ g)
theorem aGv (k:List D->List (Nat × Option aJ)->Option β):RB fr bl [] k = k [] []:=rfl
theorem aBC (x:bL) (l:List bL) (k:List D->List (Nat × Option aJ)->Option β):RB fr bl (x :: l) k = bW fr x fun v=>RR v bl fun y f=>RB fr bl l fun ds g=>k (y :: ds) (f ++ g):=rfl
theorem aIx (l:List bL) (k:List D->List (Nat × Option aJ)->Option β):RB fr bl l k = (aM (fun x=>iN (lk bl none) (bJ (lk fr .any) x)) l).bind fun ds=>k ds (l.flatMap fun x=>AX (lk bl none) (bJ (lk fr .any) x)):=by
 induction l generalizing k with
 | nil=>rfl
 | cons x l ih =>
  simp only [RB,bW,RR,aM,ih,List.flatMap_cons]
  cases iN (lk bl none) (bJ (lk fr .any) x) with
  | none=>rfl
  | some y=>cases aM (fun x=>iN (lk bl none) (bJ (lk fr .any) x)) l <;> rfl
theorem aHM (f:Nat) (caps:List bL):rI T d (.mkfn f caps) fr bl k kw = RB fr bl caps fun ds fz=>fzK fz (.d (.fn f ds)) k kw:=by
 rw [iY,aIx]
 simp only [cE]
 cases aM (fun x=>iN (lk bl none) (bJ (lk fr .any) x)) caps with
 | none=>rfl
 | some ds =>
  simp only [Option.bind_some]
  cases caps.flatMap fun x=>AX (lk bl none) (bJ (lk fr .any) x) <;> rfl
def ON (fr:List (Nat × V)) (bl:List (Nat × Option aJ)) (caps:List D):List bL->(List D->List (Nat × Option aJ)->Option β)->Option β
 | [],k=>k caps []
 | x :: l,k=>bW fr x fun v=>B0 v bl fun y f=>ON fr bl caps l fun ds g=>k (y :: ds) (f ++ g)
theorem aGI (caps:List D) (k:List D->List (Nat × Option aJ)->Option β):ON fr bl caps [] k = k caps []:=rfl
theorem aBe (caps:List D) (x:bL) (l:List bL) (k:List D->List (Nat × Option aJ)->Option β):ON fr bl caps (x :: l) k = bW fr x fun v=>B0 v bl fun y f=>ON fr bl caps l fun ds g=>k (y :: ds) (f ++ g):=rfl
theorem aLB (caps:List D) (l:List bL) (k:List D->List (Nat × Option aJ)->Option β):ON fr bl caps l k = (aM (fun x=>iP (lk bl none) (bJ (lk fr .any) x)) l).bind fun ds=>k (ds ++ caps) (l.flatMap fun x=>vT (lk bl none) (bJ (lk fr .any) x)):=by
 induction l generalizing k with
 | nil=>rfl
 | cons x l ih =>
  simp only [ON,bW,B0,aM,ih,List.flatMap_cons]
  cases iP (lk bl none) (bJ (lk fr .any) x) with
  | none=>rfl
  | some y=>cases aM (fun x=>iP (lk bl none) (bJ (lk fr .any) x)) l <;> rfl
noncomputable def aC7 (T:vZ) (d:Nat) (v:V) (args:List bL) (fr:List (Nat × V)) (bl:List (Nat × Option aJ)) (k:V->Option β) (kw:V->List (Nat × Option aJ)->Option β):Option β:=match v with
 | .d (.fn f caps)=>ON fr bl caps args fun ds fz=>tT T d bl f ds fz k kw
 | _=>none
theorem aLo (f:Nat) (caps:List D) (args:List bL):aC7 T d (.d (.fn f caps)) args fr bl k kw = ON fr bl caps args fun ds fz=>tT T d bl f ds fz k kw:=rfl
theorem aGT (g:bL) (args:List bL):rI T d (.callv g args) fr bl k kw = bW fr g fun v=>aC7 T d v args fr bl k kw:=by
 rw [iY]
 unfold bW
 simp only [cE]
 generalize bJ (lk fr .any) g = v
 cases v with
 | d x=>cases x with
  | fn f caps =>
   simp only [aC7,aLB]
   cases aM (fun x=>iP (lk bl none) (bJ (lk fr .any) x)) args with
   | none=>rfl
   | some ds =>
    simp only [Option.bind_some,tT]
    cases call T f (ds ++ caps) <;> rfl
  | _=>rfl
 | _=>rfl
def aQY (v:V) (i:Nat) (k:V->Option β):Option β:=match v with
 | .tup vs=>CK vs i k
 | _=>none
theorem ZB (x:bL) (i:Nat):rI T d (.extract x i) fr bl k kw = bW fr x fun v=>aQY v i k:=by
 unfold rI bW
 simp only [cE]
 generalize bJ (lk fr .any) x = v
 cases v with
 | tup vs=>simp only [aQY,LZ]; cases vs[i]? <;> rfl
 | _=>rfl
theorem aRG (vs:List V) (i:Nat):aQY (.tup vs) i k = CK vs i k:=rfl
def tP (m:sT) (fr:List (Nat × V)) (bl:List (Nat × Option aJ)) (k:List (Nat × V)->List (Nat × Option aJ)->Option β):Option β:=k (m.app ⟨fr,bl⟩).fr (m.app ⟨fr,bl⟩).bl
theorem aN3 {k:Ex->St->Option β} (m:sT) (a:aH):bU T (.pre m a) ⟨fr,bl⟩ k = tP m fr bl fun fr' bl'=>bU T a ⟨fr',bl'⟩ k:=by
 rw [aOk]; rfl
theorem aN6 {k:Ex->St->Option β} (m:sT):Z6 m k .normal ⟨fr,bl⟩ = tP m fr bl fun fr' bl'=>k .normal ⟨fr',bl'⟩:=by
 rw [aL2]; rfl
def pE (keep:List Nat) (bl:List (Nat × Option aJ)) (v:V) (k:V->Option β):Option β:=k (GE keep (lk bl none) v)
def Q6 (keep:List Nat) (fr:List (Nat × V)) (bl:List (Nat × Option aJ)):List Nat->(List (Nat × V)->Option β)->Option β
 | [],k=>k []
 | t :: r,k=>iK fr t fun v=>pE keep bl v fun v'=>Q6 keep fr bl r fun l=>k ((t,v') :: l)
theorem aLg (keep l:List Nat):∀ (k:List (Nat × V)->Option β),Q6 keep fr bl l k = k (l.map fun t=>(t,GE keep (lk bl none) (lk fr .any t))):=by
 induction l with
 | nil=>intro k; rfl
 | cons t l ih=>intro k; simp only [Q6,iK,pE,ih,List.map_cons]
def xX (keep:List Nat) (bl:List (Nat × Option aJ)) (b:Option aJ) (k:Option aJ->Option β):Option β:=k (b.bind (CP keep (lk bl none)))
def R4 (keep:List Nat) (bl:List (Nat × Option aJ)):List Nat->(List (Nat × Option aJ)->Option β)->Option β
 | [],k=>k []
 | i :: r,k=>bC bl i fun b=>xX keep bl b fun b'=>R4 keep bl r fun l=>k ((i,b') :: l)
theorem aI0 (keep l:List Nat):∀ (k:List (Nat × Option aJ)->Option β),R4 keep bl l k = k (l.map fun i=>(i,(lk bl none i).bind (CP keep (lk bl none)))):=by
 induction l with
 | nil=>intro k; rfl
 | cons t l ih=>intro k; simp only [R4,bC,xX,ih,List.map_cons]
theorem aEy (keep:List Nat) (k:List (Nat × V)->Option β):Q6 keep fr bl [] k = k []:=rfl
theorem aBs (keep:List Nat) (t:Nat) (r:List Nat) (k:List (Nat × V)->Option β):Q6 keep fr bl (t :: r) k = iK fr t fun v=>pE keep bl v fun v'=>Q6 keep fr bl r fun l=>k ((t,v') :: l):=rfl
theorem aHz (keep:List Nat) (k:List (Nat × Option aJ)->Option β):R4 keep bl [] k = k []:=rfl
theorem aBl (keep:List Nat) (i:Nat) (r:List Nat) (k:List (Nat × Option aJ)->Option β):R4 keep bl (i :: r) k = bC bl i fun b=>xX keep bl b fun b'=>R4 keep bl r fun l=>k ((i,b') :: l):=rfl
theorem aOw (live keep:List Nat) (k:List (Nat × V)->List (Nat × Option aJ)->Option β):tP ⟨live,keep,[],[],[],[]⟩ fr bl k = Q6 keep fr bl live fun fr'=>R4 keep bl keep fun bl'=>k fr' bl':=by
 rw [aLg,aI0]; rfl
def fB (keep:List Nat) (i:Nat) (x y:Option β):Option β:=if keep.contains i = true then x else y
theorem SZ (i:Nat) (x y:Option β):fB [] i x y = y:=rfl
theorem S1 (i:Nat) (r:List Nat) (x y:Option β):fB (i :: r) i x y = x:=by simp [fB]
theorem RF (a i:Nat) (r:List Nat) (x y:Option β) (h:(i == a) = false):fB (a :: r) i x y = fB r i x y:=by
 unfold fB
 rw [List.contains_cons,h,Bool.false_or]
section
variable (keep:List Nat)
theorem aPB (x:D):pE keep bl (.d x) k = k (.d x):=rfl
theorem aGz:pE keep bl .nil k = k .nil:=rfl
theorem aPT:pE keep bl (.tup []) k = k (.tup []):=rfl
theorem aFG:pE keep bl .any k = k .any:=rfl
def QR (keep:List Nat) (id off:Nat) (b:Option aJ) (k:V->Option β):Option β:=match b with
 | some (.box _)=>fB keep id (k (.ptr id off)) (k .any)
 | some (.fbox ds)=>k (.d (.ptr ds off))
 | _=>k .any
theorem aB1 (id off:Nat) (cs:List V):QR keep id off (some (.box cs)) k = fB keep id (k (.ptr id off)) (k .any):=rfl
theorem Y1 (id off:Nat) (ds:List D):QR keep id off (some (.fbox ds)) k = k (.d (.ptr ds off)):=rfl
theorem YN (id off:Nat):QR keep id off none k = k .any:=rfl
theorem aGP (id off:Nat):pE keep bl (.ptr id off) k = bC bl id fun b=>QR keep id off b k:=by
 unfold pE bC QR
 simp only [GE,OH,sO]
 generalize lk bl none id = b
 cases b with
 | none=>rfl
 | some b=>cases b with
  | box cs=>simp only [fB]; split <;> rfl
  | _=>rfl
def IC (id ver:Nat) (b:Option aJ) (k:V->Option β):Option β:=match b with
 | some (.rows v _ _ _)=>if (ver == v) = true then fB keep id (k (.own id 0)) (k .any) else k .any
 | some (.froz v rows)=>if ver = v then k (.d (.sl rows)) else k .any
 | _=>k .any
theorem aEI (id ver:Nat):pE keep bl (.own id ver) k = bC bl id fun b=>IC keep id ver b k:=by
 unfold pE bC IC fB
 simp only [GE,OH,sO]
 generalize lk bl none id = b
 cases b with
 | none=>rfl
 | some b=>cases b with
  | rows v e s rows=>simp only; cases (ver == v) <;> cases keep.contains id <;> rfl
  | froz v rows=>simp only; split <;> rfl
  | _=>rfl
theorem aAy (id v e s:Nat) (rows:List (List D)):IC keep id v (some (.rows v e s rows)) k = fB keep id (k (.own id 0)) (k .any):=by simp [IC]
theorem aDd (id ver v e s:Nat) (rows:List (List D)) (h:(ver == v) = false):IC keep id ver (some (.rows v e s rows)) k = k .any:=by simp [IC,h]
theorem aAz (id v:Nat) (rows:List (List D)):IC keep id v (some (.froz v rows)) k = k (.d (.sl rows)):=if_pos rfl
theorem aAA (id v:Nat):IC keep id v none k = k .any:=rfl
def NA (id ver i off:Nat) (b:Option aJ) (k:V->Option β):Option β:=match b with
 | some (.rows v _ _ _)=>if (ver == v) = true then fB keep id (k (.orow id 0 i off)) (k .any) else k .any
 | _=>k .any
theorem aCv (id ver i off:Nat):pE keep bl (.orow id ver i off) k = bC bl id fun b=>NA keep id ver i off b k:=by
 unfold pE bC NA fB
 simp only [GE,OH,sO]
 generalize lk bl none id = b
 cases b with
 | none=>rfl
 | some b=>cases b with
  | rows v e s rows=>simp only; cases (ver == v) <;> cases keep.contains id <;> rfl
  | _=>rfl
theorem aAD (id v i off e s:Nat) (rows:List (List D)):NA keep id v i off (some (.rows v e s rows)) k = fB keep id (k (.orow id 0 i off)) (k .any):=by simp [NA]
theorem aDr (id ver v i off e s:Nat) (rows:List (List D)) (h:(ver == v) = false):NA keep id ver i off (some (.rows v e s rows)) k = k .any:=by simp [NA,h]
def rE (keep:List Nat) (bl:List (Nat × Option aJ)):List V->(List V->Option β)->Option β
 | [],k=>k []
 | v :: cs,k=>k (sO keep (lk bl none) v :: cs.map (sO keep (lk bl none)))
theorem sI (cs:List V) (k:List V->Option β):rE keep bl cs k = k (cs.map (sO keep (lk bl none))):=by cases cs <;> rfl
theorem aA8 (k:List V->Option β):rE keep bl [] k = k []:=rfl
theorem aJG (x:D) (cs:List V) (k:List V->Option β):rE keep bl (.d x :: cs) k = rE keep bl cs fun l=>k (.d x :: l):=by simp only [sI]; rfl
theorem aHK (cs:List V) (k:List V->Option β):rE keep bl (.nil :: cs) k = rE keep bl cs fun l=>k (.nil :: l):=by simp only [sI]; rfl
theorem aBp (cs:List V) (k:List V->Option β):rE keep bl (.any :: cs) k = rE keep bl cs fun l=>k (.any :: l):=by simp only [sI]; rfl
theorem aCj (id ver:Nat) (cs:List V) (k:List V->Option β):rE keep bl (.own id ver :: cs) k = pE keep bl (.own id ver) fun v=>rE keep bl cs fun l=>k (v :: l):=by simp only [sI]; rfl
theorem aA2 (id off:Nat) (cs:List V) (k:List V->Option β):rE keep bl (.ptr id off :: cs) k = pE keep bl (.ptr id off) fun v=>rE keep bl cs fun l=>k (v :: l):=by simp only [sI]; rfl
theorem aGQ (cs:List V):pE keep bl (.agg cs) k = rE keep bl cs fun l=>k (.agg l):=by rw [sI]; rfl
theorem LY (ds:List D) (b:Nat->Option aJ):(aO ds).map (sO keep b) = aO ds:=by
 induction ds with
 | nil=>rfl
 | cons x ds ih=>show sO keep b (.d x) :: (aO ds).map (sO keep b) = _; rw [ih]; rfl
theorem aBW (ds:List D):pE keep bl (iX ds) k = k (iX ds):=by
 show k (.agg ((aO ds).map (sO keep (lk bl none)))) = _
 rw [LY]; rfl
theorem XI (k:Option aJ->Option β):xX keep bl none k = k none:=rfl
theorem aCt (c:V) (cs:List V) (k:Option aJ->Option β):xX keep bl (some (.box (c :: cs))) k = rE keep bl (c :: cs) fun l=>k (some (.box l)):=by rw [sI]; rfl
theorem YH (k:Option aJ->Option β):xX keep bl (some (.box [])) k = k (some (.box [])):=rfl
theorem TC (ds:List D) (k:Option aJ->Option β):xX keep bl (some (.box (aO ds))) k = k (some (.box (aO ds))):=by
 show k (some (.box ((aO ds).map (sO keep (lk bl none))))) = _
 rw [LY]
theorem aAd (v e s:Nat) (rows:List (List D)) (k:Option aJ->Option β):xX keep bl (some (.rows v e s rows)) k = k (some (.rows 0 e s rows)):=rfl
theorem ZU (ds:List D) (k:Option aJ->Option β):xX keep bl (some (.fbox ds)) k = k none:=rfl
theorem XX (v:Nat) (rows:List (List D)) (k:Option aJ->Option β):xX keep bl (some (.froz v rows)) k = k none:=rfl
end
def aM8 (res:List jW):Ex->St->Option D
 | .normal,s=>match aM (s9 s) res with
  | none=>none
  | some [v]=>iP s.blk v
  | some vs=>toD s.blk (.tup vs)
 | .ret,s=>match aM (s9 s) res with
  | none=>none
  | some [v]=>iP s.blk v
  | some vs=>toD s.blk (.tup vs)
 | .exit _,_=>none
def J0 (fr:List (Nat × V)) (bl:List (Nat × Option aJ)):List jW->(List D->Option D)->Option D
 | [],k=>k []
 | .tmp t :: r,k=>iK fr t fun v=>B0 v bl fun x _=>J0 fr bl r fun l=>k (x :: l)
 | .cell t size isAgg :: r,k=>iK fr t fun p=>yJ size isAgg p bl fun v=>B0 v bl fun x _=>J0 fr bl r fun l=>k (x :: l)
def MS:List D->Option D
 | [x]=>some x
 | l=>some (.tup l)
theorem R5 (size:Nat) (a:Bool) (p:V):yJ size a p bl k = (MR size a p (lk bl none)).bind fun r=>k r.1:=by
 have h:=XY (T:=fun _=>none) (d:=0) (fr:=[]) (bl:=bl) (k:=k) (kw:=fun v _=>k v) size a (.c p)
 have e:bW [] (.c p) (fun v=>yJ size a v bl k) = yJ size a p bl k:=rfl
 rw [← e,← h,iY,HZ]
 show FN (MR size a p (lk bl none)) k (fun v _=>k v) = _
 cases MR size a p (lk bl none) with
 | none=>rfl
 | some r=>obtain ⟨v,wr⟩:=r; cases wr <;> rfl
theorem DD (fr:List (Nat × V)) (bl:List (Nat × Option aJ)):St.blk ⟨fr,bl⟩ = lk bl none:=rfl
theorem aMn (res:List jW):∀ (k:List D->Option D),J0 fr bl res k = (aM (s9 ⟨fr,bl⟩) res).bind fun vs=>(aM (iP (lk bl none)) vs).bind k:=by
 induction res with
 | nil=>intro k; rfl
 | cons r res ih =>
  intro k
  cases r with
  | tmp t =>
   simp only [J0,iK,B0,ih,aM,s9,CY,DD]
   cases h1:aM (s9 ⟨fr,bl⟩) res with
   | none =>
    simp only [Option.bind_none]
    cases iP (lk bl none) (lk fr .any t) <;> rfl
   | some vs =>
    simp only [Option.bind_some,aM]
    cases iP (lk bl none) (lk fr .any t) with
    | none=>rfl
    | some x=>cases aM (iP (lk bl none)) vs <;> rfl
  | cell t size isAgg =>
   simp only [J0,iK,R5,B0,ih,aM,s9,HZ,CY,DD]
   cases MR size isAgg (lk fr .any t) (lk bl none) with
   | none=>rfl
   | some q =>
    obtain ⟨v,wr⟩:=q
    simp only [Option.bind_some]
    cases h1:aM (s9 ⟨fr,bl⟩) res with
    | none =>
     simp only [Option.bind_none]
     cases iP (lk bl none) v <;> rfl
    | some vs =>
     simp only [Option.bind_some,aM]
     cases iP (lk bl none) v with
     | none=>rfl
     | some x=>cases aM (iP (lk bl none)) vs <;> rfl
theorem WT (res:List jW):(match aM (s9 ⟨fr,bl⟩) res with
  | none=>none
  | some [v]=>iP (lk bl none) v
  | some vs=>toD (lk bl none) (.tup vs)) = J0 fr bl res MS:=by
 rw [aMn]
 cases aM (s9 ⟨fr,bl⟩) res with
 | none=>rfl
 | some vs =>
  simp only [Option.bind_some]
  cases vs with
  | nil=>rfl
  | cons v vs =>
   cases vs with
   | nil =>
    simp only [aM]
    cases iP (lk bl none) v <;> rfl
   | cons w ws =>
    show (aM (iP (lk bl none)) (v :: w :: ws)).map D.tup = _
    simp only [aM]
    cases iP (lk bl none) v with
    | none=>rfl
    | some x=>cases iP (lk bl none) w with
     | none=>rfl
     | some y=>cases aM (iP (lk bl none)) ws <;> rfl
theorem aQG (res:List jW):aM8 res .normal ⟨fr,bl⟩ = J0 fr bl res MS:=WT res
theorem aQt (res:List jW):aM8 res .ret ⟨fr,bl⟩ = J0 fr bl res MS:=WT res
theorem aQv (res:List jW) (i:Nat) (s:St):aM8 res (.exit i) s = none:=rfl
theorem aIH (k:List D->Option D):J0 fr bl [] k = k []:=rfl
theorem aJF (t:Nat) (r:List jW) (k:List D->Option D):J0 fr bl (.tmp t :: r) k = iK fr t fun v=>B0 v bl fun x _=>J0 fr bl r fun l=>k (x :: l):=rfl
theorem aET (t size:Nat) (isAgg:Bool) (r:List jW) (k:List D->Option D):J0 fr bl (.cell t size isAgg :: r) k = iK fr t fun p=>yJ size isAgg p bl fun v=>B0 v bl fun x _=>J0 fr bl r fun l=>k (x :: l):=rfl
theorem aPV (x:D):MS [x] = some x:=rfl
theorem aO7 (x y:D) (l:List D):MS (x :: y :: l) = some (.tup (x :: y :: l)):=rfl
theorem bI {T:vZ} {f np nt:Nat} {res:List jW} {body:aH} (hf:T f = some (.code ⟨np,nt,res,body,false,false⟩)) (ds:List D) (hl:ds.length = np) (hlt:jB 0 ds = none):Vm.call T f ds = bU T body ⟨nW 0 ds,[]⟩ (aM8 res):=by
 rw [ZZ hf ds hl hlt]
 unfold bU
 cases Vm.ev T body ⟨nW 0 ds,[]⟩ with
 | none=>rfl
 | some q =>
  obtain ⟨e,s⟩:=q
  cases e <;> rfl
def YT:List V->V
 | [v]=>v
 | vs=>.tup vs
def NR (fr:List (Nat × V)) (bl:List (Nat × Option aJ)):List jW->(List V->Option D)->Option D
 | [],k=>k []
 | .tmp t :: r,k=>iK fr t fun v=>NR fr bl r fun l=>k (v :: l)
 | .cell t size isAgg :: r,k=>iK fr t fun p=>yJ size isAgg p bl fun v=>NR fr bl r fun l=>k (v :: l)
theorem aM3 (res:List jW):∀ (k:List V->Option D),NR fr bl res k = (aM (s9 ⟨fr,bl⟩) res).bind k:=by
 induction res with
 | nil=>intro k; rfl
 | cons r res ih =>
  intro k
  cases r with
  | tmp t =>
   simp only [NR,iK,ih,aM,s9,CY]
   cases aM (s9 ⟨fr,bl⟩) res <;> rfl
  | cell t size isAgg =>
   simp only [NR,iK,R5,ih,aM,s9,HZ,CY,DD]
   cases MR size isAgg (lk fr .any t) (lk bl none) with
   | none=>rfl
   | some q =>
    obtain ⟨v,wr⟩:=q
    simp only [Option.bind_some]
    cases aM (s9 ⟨fr,bl⟩) res <;> rfl
def aOx (res:List jW):Ex->St->Option D
 | .normal,s=>match aM (s9 s) res with
  | none=>none
  | some [v]=>vA s.blk v
  | some vs=>vA s.blk (.tup vs)
 | .ret,s=>match aM (s9 s) res with
  | none=>none
  | some [v]=>vA s.blk v
  | some vs=>vA s.blk (.tup vs)
 | .exit _,_=>none
theorem aDT (res:List jW):(match aM (s9 ⟨fr,bl⟩) res with
  | none=>none
  | some [v]=>vA (lk bl none) v
  | some vs=>vA (lk bl none) (.tup vs)) = NR fr bl res fun vs=>vA (lk bl none) (YT vs):=by
 rw [aM3]
 cases aM (s9 ⟨fr,bl⟩) res with
 | none=>rfl
 | some vs =>
  cases vs with
  | nil=>rfl
  | cons v vs=>cases vs <;> rfl
theorem aQ0 (res:List jW):aOx res .normal ⟨fr,bl⟩ = NR fr bl res fun vs=>vA (lk bl none) (YT vs):=aDT res
theorem aRs (res:List jW):aOx res .ret ⟨fr,bl⟩ = NR fr bl res fun vs=>vA (lk bl none) (YT vs):=aDT res
theorem aRO (res:List jW) (i:Nat) (s:St):aOx res (.exit i) s = none:=rfl
theorem aLC (k:List V->Option D):NR fr bl [] k = k []:=rfl
theorem aIY (t:Nat) (r:List jW) (k:List V->Option D):NR fr bl (.tmp t :: r) k = iK fr t fun v=>NR fr bl r fun l=>k (v :: l):=rfl
theorem aE8 (t size:Nat) (isAgg:Bool) (r:List jW) (k:List V->Option D):NR fr bl (.cell t size isAgg :: r) k = iK fr t fun p=>yJ size isAgg p bl fun v=>NR fr bl r fun l=>k (v :: l):=rfl
theorem aPZ (x:V):YT [x] = x:=rfl
theorem aMP (x y:V) (l:List V):YT (x :: y :: l) = .tup (x :: y :: l):=rfl
theorem LX {T:vZ} {f np nt:Nat} {res:List jW} {body:aH} (hf:T f = some (.code ⟨np,nt,res,body,true,false⟩)) (ds:List D) (hl:ds.length = np) (hlt:jB 0 ds = none):Vm.call T f ds = bU T body ⟨nW 0 ds,[]⟩ (aOx res):=by
 rw [ZZ hf ds hl hlt]
 unfold bU
 cases Vm.ev T body ⟨nW 0 ds,[]⟩ with
 | none=>rfl
 | some q =>
  obtain ⟨e,s⟩:=q
  cases e <;> rfl
def SS (v:V) (b:Option aJ) (x y:Option β):Option β:=match v,b with
 | .nil,none=>x
 | _,_=>y
theorem aPr (b:aJ) (x y:Option β):SS .nil (some b) x y = y:=rfl
theorem aQ5 (x y:Option β):SS .nil none x y = x:=rfl
theorem aI3 (i v:Nat) (b:Option aJ) (x y:Option β):SS (.own i v) b x y = y:=rfl
theorem aRB (z:D) (b:Option aJ) (x y:Option β):SS (.d z) b x y = y:=rfl
theorem aKP (b:Option aJ) (x y:Option β):SS .any b x y = y:=rfl
theorem aNa (live keep:List Nat) (t i e s:Nat) (l:List (Nat × Nat × Nat × Nat)) (c:List (Nat × Nat × Nat × Nat × Nat)) (ft:List Nat) (fc:List (Nat × Nat)) (k:List (Nat × V)->List (Nat × Option aJ)->Option β) (hs:0 < s) :
  tP ⟨live,keep,(t,i,e,s) :: l,c,ft,fc⟩ fr bl k = iK fr t fun v=>bC bl i fun b=>SS v b (M5 e [] fun rows=>tP ⟨live,keep,l,c,ft,fc⟩ ((t,.own i 0) :: fr) ((i,some (.rows 0 e s rows)) :: bl) k) (tP ⟨live,keep,l,c,ft,fc⟩ fr bl k):=by
 show tP ⟨live,keep,(t,i,e,s) :: l,c,ft,fc⟩ fr bl k = SS (lk fr .any t) (lk bl none i) _ _
 unfold tP
 rw [aS6]
 unfold mkT M5
 show k (sT.app ⟨live,keep,l,c,ft,fc⟩ (match lk fr .any t,lk bl none i with | .nil,none=>if 0 < s then _ else _ | _,_=>_)).fr (sT.app ⟨live,keep,l,c,ft,fc⟩ (match lk fr .any t,lk bl none i with | .nil,none=>if 0 < s then _ else _ | _,_=>_)).bl = _
 generalize lk fr .any t = v
 generalize lk bl none i = b
 cases v with
 | nil=>cases b with
  | none=>simp only [SS,if_pos hs]
  | some b=>rfl
 | _=>rfl
def aEG (b0:Option aJ) (n:Nat) (b:Option aJ) (x:List V->Option β) (y:Option β):Option β:=match b0 with
 | some (.box cs)=>match cs[n]?,b with
  | some .nil,none=>x cs
  | _,_=>y
 | _=>y
theorem aMW (live keep:List Nat) (i n j e s:Nat) (c:List (Nat × Nat × Nat × Nat × Nat)) (ft:List Nat) (fc:List (Nat × Nat)) (k:List (Nat × V)->List (Nat × Option aJ)->Option β) (hs:0 < s) :
  tP ⟨live,keep,[],(i,n,j,e,s) :: c,ft,fc⟩ fr bl k = bC bl i fun b0=>bC bl j fun b=>aEG b0 n b (fun cs=>B4 cs n (.own j 0) fun cs'=>M5 e [] fun rows=>tP ⟨live,keep,[],c,ft,fc⟩ fr ((i,some (.box cs')) :: (j,some (.rows 0 e s rows)) :: bl) k) (tP ⟨live,keep,[],c,ft,fc⟩ fr bl k):=by
 show tP ⟨live,keep,[],(i,n,j,e,s) :: c,ft,fc⟩ fr bl k = aEG (lk bl none i) n (lk bl none j) _ _
 unfold tP
 rw [aTu]
 have hm:∀ b0 b,lk bl none i = b0->lk bl none j = b->mkC (i,n,j,e,s) ⟨fr,bl⟩ = (match b0,b with
  | some (.box cs),none=>match cs[n]? with
   | some .nil=>if 0 < s then ⟨fr,(i,some (.box (cs.set n (.own j 0)))) :: (j,some (.rows 0 e s [])) :: bl⟩ else ⟨fr,bl⟩
   | _=>⟨fr,bl⟩
  | _,_=>⟨fr,bl⟩):=by
  rintro _ _ rfl rfl; rfl
 have hm:=hm _ _ rfl rfl
 rw [hm]
 generalize lk bl none i = b0
 generalize lk bl none j = b
 cases b0 with
 | none=>rfl
 | some b0=>cases b0 with
  | box cs =>
   cases b with
   | none =>
    simp only [aEG]
    cases h:cs[n]? with
    | none=>rfl
    | some v =>
     cases v with
     | nil =>
      have hn:n < cs.length:=by
       rw [List.getElem?_eq_some_iff] at h
       exact h.1
      simp only [if_pos hs,ZH,M5]
      rw [if_pos (by omega)]
      have:∀ (cs:List V) (n:Nat),n < cs.length->iM cs n [.own j 0] = cs.set n (.own j 0):=by
       intro cs
       induction cs with
       | nil=>intro n h; simp at h
       | cons c cs ih =>
        intro n h
        cases n with
        | zero=>cases cs <;> rfl
        | succ n=>simp only [iM,List.set_cons_succ]; rw [ih n (by simpa using h)]
      rw [this cs n hn]
     | _=>rfl
   | some b=>simp only [aEG]; cases cs[n]? with
    | none=>rfl
    | some v=>cases v <;> rfl
  | _=>cases b <;> rfl
theorem aB0 (k:List (Nat × Nat × V)->Option β):K7 fr [] k = k []:=rfl
theorem Y2 (o s:Nat) (x:bL) (l:List (Nat × Nat × bL)) (k:List (Nat × Nat × V)->Option β):K7 fr ((o,s,x) :: l) k = bW fr x fun v=>K7 fr l fun vs=>k ((o,s,v) :: vs):=rfl
theorem aF2 (l:List (Nat × Nat × bL)):∀ (k:List (Nat × Nat × V)->Option β),K7 fr l k = k (l.map fun p=>(p.1,p.2.1,bJ (lk fr .any) p.2.2)):=by
 induction l with
 | nil=>intro k; rfl
 | cons p l ih=>intro k; obtain ⟨o,s,x⟩:=p; simp only [K7,bW,ih,List.map_cons]
def QG (z:List V):List (Nat × Nat × V)->(List V->Option β)->Option β
 | [],k=>k z
 | (off,size,v) :: r,k=>u3 v fun cs=>xI cs size (gQ z off cs fun z'=>QG z' r k)
theorem aE5 (z:List V) (k:List V->Option β):QG z [] k = k z:=rfl
theorem aAP (z:List V) (off size:Nat) (v:V) (r:List (Nat × Nat × V)) (k:List V->Option β):QG z ((off,size,v) :: r) k = u3 v fun cs=>xI cs size (gQ z off cs fun z'=>QG z' r k):=rfl
theorem aI9 (ps:List (Nat × Nat × V)):∀ (z:List V) (k:List V->Option β),QG z ps k = (H6 z ps).bind k:=by
 induction ps with
 | nil=>intro z k; rfl
 | cons p r ih =>
  intro z k
  obtain ⟨off,size,v⟩:=p
  simp only [QG,H6,u3,xI,gQ,ih]
  by_cases h1:v.known = true
  ·by_cases h2:v.cells.length = size
   ·subst h2
    by_cases h3:off + v.cells.length <= z.length
    ·rw [if_pos h1,if_pos rfl,if_pos h3,if_pos ⟨rfl,h3,h1⟩]
    ·rw [if_pos h1,if_pos rfl,if_neg h3,if_neg (fun q=>h3 q.2.1)]; rfl
   ·rw [if_pos h1,if_neg h2,if_neg (fun q=>h2 q.1)]; rfl
  ·rw [if_neg h1,if_neg (fun q=>h1 q.2.2)]; rfl
theorem aHn (z:List V) (parts:List (Nat × Nat × bL)):rI T d (.build z parts) fr bl k kw = K7 fr parts fun ps=>QG z ps fun cs=>k (.agg cs):=by
 rw [iY,aF2,aI9]
 simp only [cE]
 have e1:(parts.map fun x=>match x with | (o,s,x)=>(o,s,bJ (lk fr .any) x)) = parts.map fun p=>(p.1,p.2.1,bJ (lk fr .any) p.2.2):=rfl
 rw [e1]
 cases H6 z (parts.map fun p=>(p.1,p.2.1,bJ (lk fr .any) p.2.2)) <;> rfl
theorem aCT (ds:List D):(aO ds).length = ds.length:=by simp [aO]
def aO9 (bytes:Nat) (a b:V) (x:Nat->Option β):Option β:=match a,b with
 | .d (.int _ n),.d (.int _ m)=>if 0 <= n ∧ n <= m ∧ (bytes:Int) * m <= 281474976710656 ∧ m <= 9223372036854775807 then x n.toNat else none
 | _,_=>none
theorem aRq (bytes:Nat) (i j:IntKind) (n m:Int) (x:Nat->Option β):aO9 bytes (.d (.int i n)) (.d (.int j m)) x = if 0 <= n ∧ n <= m ∧ (bytes:Int) * m <= 281474976710656 ∧ m <= 9223372036854775807 then x n.toNat else none:=rfl
theorem aQl {α:Type} (e size bytes:Nat) (z:List D) (c:α->List D) (x:α) (hz:z = c x) (l cp:bL):rI T d (.makeSlice e size bytes z l cp) fr bl k kw = bC bl d fun b=>fU b (bW fr l fun a=>bW fr cp fun b=>aO9 bytes a b fun n=>kw (.own d 0) [(d,some (.rows 0 e size (cM c (List.replicate n x))))]):=S3 e size bytes z c x hz l cp
theorem aLW {k:Ex->St->Option β} (c:bL) (a b:aH):bU T (.cond c a b) ⟨fr,bl⟩ k = bW fr c fun v=>LV v (bU T a ⟨fr,bl⟩ k) (bU T b ⟨fr,bl⟩ k):=aK7 c a b _
theorem aOg (a b c:List (Nat × Option aJ)) (t:Nat) (k:Option aJ->Option β):bC ((a ++ b) ++ c) t k = bC (a ++ (b ++ c)) t k:=by rw [List.append_assoc]
def Z5:List V->Nat->(V->Option β)->Option β->Option β
 | [],_,_,y=>y
 | c :: _,0,x,_=>x c
 | _ :: cs,n + 1,x,y=>Z5 cs n x y
theorem aRD (c:V) (cs:List V) (x:V->Option β) (y:Option β):Z5 (c :: cs) 0 x y = x c:=rfl
theorem aRM (c:V) (cs:List V) (n:Nat) (x:V->Option β) (y:Option β):Z5 (c :: cs) (n + 1) x y = Z5 cs n x y:=rfl
theorem aH8 (cs:List V) (n:Nat) (b:Option aJ) (x:List V->Option β) (y:Option β):aEG (some (.box cs)) n b x y = Z5 cs n (fun v=>SS v b (x cs) y) y:=by
 have:∀ (l:List V) (n:Nat),(match l[n]?,b with | some .nil,none=>x cs | _,_=>y) = Z5 l n (fun v=>SS v b (x cs) y) y:=by
  intro l
  induction l with
  | nil=>intro n; rfl
  | cons c l ih=>intro n; cases n with
   | zero=>cases c <;> cases b <;> rfl
   | succ n=>exact ih n
 exact this cs n
theorem aFB (n:Nat) (b:Option aJ) (x:List V->Option β) (y:Option β):aEG none n b x y = y:=rfl
def aDZ (rows:List (List D)) (k:V->Option β):Option β:=k (.d (.int .i64 rows.length))
theorem aNJ {α:Type} (c:α->List D) (xs:List α):aDZ (cM c xs) k = k (.d (.int .i64 (xs.length:Int))):=by unfold aDZ; rw [vG]
theorem aNm:aDZ [] k = k (.d (.int .i64 0)):=rfl
theorem aOT (x:bL):rI T d (.len x) fr bl k kw = bW fr x fun a=>J6 a bl fun rows=>aDZ rows k:=aPL x
def JN (v:V) (bl:List (Nat × Option aJ)) (k:V->List (Nat × Option aJ)->Option β) (y:Option β):Option β:=match rD (lk bl none) v with
 | some x=>k (.d x) (IY (lk bl none) v)
 | none=>y
theorem aQW (x:D) (k:V->List (Nat × Option aJ)->Option β) (y:Option β):JN (.d x) bl k y = k (.d x) []:=rfl
theorem aLc (k:V->List (Nat × Option aJ)->Option β) (y:Option β):JN .nil bl k y = k (.d (.sl [])) []:=rfl
theorem aLk (k:V->List (Nat × Option aJ)->Option β) (y:Option β):JN .any bl k y = y:=rfl
def aMO (id ver:Nat) (b:Option aJ) (k:V->List (Nat × Option aJ)->Option β) (y:Option β):Option β:=match b with
 | some (.rows v _ _ rows)=>if ver = v then k (.d (.sl rows)) [(id,some (.froz v rows))] else y
 | some (.froz v rows)=>if ver = v then k (.d (.sl rows)) [] else y
 | _=>y
theorem aIE (id ver:Nat) (k:V->List (Nat × Option aJ)->Option β) (y:Option β):JN (.own id ver) bl k y = bC bl id fun b=>aMO id ver b k y:=by
 unfold JN bC aMO
 simp only [rD,IY]
 generalize lk bl none id = b
 cases b with
 | none=>rfl
 | some b=>cases b with
  | rows v e s rows=>simp only; by_cases h:ver = v <;> simp [h]
  | froz v rows=>simp only; by_cases h:ver = v <;> simp [h]
  | _=>rfl
theorem aFC (id v e s:Nat) (rows:List (List D)) (k:V->List (Nat × Option aJ)->Option β) (y:Option β):aMO id v (some (.rows v e s rows)) k y = k (.d (.sl rows)) [(id,some (.froz v rows))]:=if_pos rfl
theorem aHl (id v:Nat) (rows:List (List D)) (k:V->List (Nat × Option aJ)->Option β) (y:Option β):aMO id v (some (.froz v rows)) k y = k (.d (.sl rows)) []:=if_pos rfl
theorem aJd (live keep:List Nat) (t:Nat) (ft:List Nat) (fc:List (Nat × Nat)) (k:List (Nat × V)->List (Nat × Option aJ)->Option β) :
  tP ⟨live,keep,[],[],t :: ft,fc⟩ fr bl k = iK fr t fun v=>JN v bl (fun v' wr=>tP ⟨live,keep,[],[],ft,fc⟩ ((t,v') :: fr) (wr ++ bl) k) (tP ⟨live,keep,[],[],ft,fc⟩ fr bl k):=by
 unfold tP
 rw [aRS]
 unfold M4 iK JN
 rw [CY,DD]
 dsimp only
 cases rD (lk bl none) (lk fr .any t) <;> rfl
def UQ (v:V) (bl:List (Nat × Option aJ)) (k:V->List (Nat × Option aJ)->Option β) (y:Option β):Option β:=match iN (lk bl none) v with
 | some x=>k (.d x) (AX (lk bl none) v)
 | none=>y
def aLj (n:Nat) (b:Option aJ) (bl:List (Nat × Option aJ)) (k:List V->List (Nat × Option aJ)->Option β) (y:Option β):Option β:=match b with
 | some (.box cs)=>match cs[n]? with
  | some v=>match iN (lk bl none) v with
   | some d=>k (cs.set n (.d d)) (AX (lk bl none) v)
   | none=>y
  | none=>y
 | _=>y
theorem aKr (live keep:List Nat) (i n:Nat) (fc:List (Nat × Nat)) (k:List (Nat × V)->List (Nat × Option aJ)->Option β) :
  tP ⟨live,keep,[],[],[],(i,n) :: fc⟩ fr bl k = bC bl i fun b=>aLj n b bl (fun cs wr=>tP ⟨live,keep,[],[],[],fc⟩ fr ((i,some (.box cs)) :: (wr ++ bl)) k) (tP ⟨live,keep,[],[],[],fc⟩ fr bl k):=by
 unfold tP
 rw [aQS]
 unfold frC bC aLj
 rw [DD]
 dsimp only
 cases lk bl none i with
 | none=>rfl
 | some b =>
  cases b with
  | box cs =>
   simp only
   cases cs[n]? with
   | none=>rfl
   | some v =>
    simp only
    cases iN (lk bl none) v <;> rfl
  | _=>rfl
theorem aR6 (cs:List V) (n:Nat) (w:V) (k:List V->Option β) (h:n < cs.length):B4 cs n w k = k (cs.set n w):=by
 induction cs generalizing n k with
 | nil=>simp at h
 | cons c cs ih=>cases n with
  | zero=>rfl
  | succ n=>simp only [B4,List.set_cons_succ]; rw [ih n _ (by simpa using h)]
theorem aJ4 (n:Nat) (cs:List V) (k:List V->List (Nat × Option aJ)->Option β) (y:Option β):aLj n (some (.box cs)) bl k y = Z5 cs n (fun v=>UQ v bl (fun v' wr=>B4 cs n v' fun cs'=>k cs' wr) y) y:=by
 have e:∀ (l:List V) (n:Nat) (x:V->Option β),Z5 l n x y = match l[n]? with | some v=>x v | none=>y:=by
  intro l
  induction l with
  | nil=>intro n x; rfl
  | cons c l ih=>intro n x; cases n with
   | zero=>rfl
   | succ n=>exact ih n x
 rw [e]
 simp only [aLj,UQ]
 cases h:cs[n]? with
 | none=>rfl
 | some v =>
  simp only
  cases iN (lk bl none) v with
  | none=>rfl
  | some d=>simp only; rw [aR6 _ _ _ _ (List.getElem?_eq_some_iff.1 h).1]
theorem aNw (x:D) (k:V->List (Nat × Option aJ)->Option β) (y:Option β):UQ (.d x) bl k y = k (.d x) []:=rfl
theorem aGx (k:V->List (Nat × Option aJ)->Option β) (y:Option β):UQ .nil bl k y = k (.d (.sl [])) []:=rfl
theorem aFq (k:V->List (Nat × Option aJ)->Option β) (y:Option β):UQ .any bl k y = y:=rfl
theorem aGW (id ver:Nat) (k:V->List (Nat × Option aJ)->Option β) (y:Option β):UQ (.own id ver) bl k y = JN (.own id ver) bl k y:=rfl
theorem aGU (n:Nat) (k:List V->List (Nat × Option aJ)->Option β) (y:Option β):aLj n none bl k y = y:=rfl
end
end Vm
end Go.Proofs.Ytgjcnbgfaimepaa
namespace Go.Proofs.Ytgjcnbgfaimepaa
namespace Vm
open Go.RowKit
section
variable {β:Type} {T:vZ}
def GK (d:Nat) (op:fF) (fr:List (Nat × V)) (bl:List (Nat × Option aJ)) (k:List Nat->Option β):Option β :=
 k ((if op.new = true then [d] else []) ++ ((op.peeks.flatMap fun x=>(bJ (lk fr .any) x).ids) ++ op.deeps.flatMap fun x=>(bJ (lk fr .any) x).dids (lk bl none)))
def HQ (wr:List (Nat × Option aJ)) (k:List Nat->Option β):Option β:=k (wr.map (·.1))
theorem aGu (k:List Nat->Option β):HQ [] k = k []:=rfl
theorem aOh (i:Nat) (b:Option aJ) (w:List (Nat × Option aJ)) (k:List Nat->Option β):HQ ((i,b) :: w) k = HQ w fun l=>k (i :: l):=rfl
theorem aIn (w:List (Nat × Option aJ)) (k:List Nat->Option β):HQ ([] ++ w) k = HQ w k:=rfl
theorem aHQ (p:Nat × Option aJ) (v w:List (Nat × Option aJ)) (k:List Nat->Option β):HQ ((p :: v) ++ w) k = HQ (p :: (v ++ w)) k:=rfl
theorem aIe (u v w:List (Nat × Option aJ)) (k:List Nat->Option β):HQ ((u ++ v) ++ w) k = HQ (u ++ (v ++ w)) k:=by rw [List.append_assoc]
theorem aCx (d st:Nat) (op:fF) (l:List aR) (fr:List (Nat × V)) (bl:List (Nat × Option aJ)) (fp:List Fp) (k:St->List Fp->Option β) :
  lQ T (⟨some d,op,none,st⟩ :: l) ⟨fr,bl⟩ fp k = rI T st op fr bl (fun v=>GK st op fr bl fun f=>lQ T l ⟨(d,v) :: fr,bl⟩ ((f,[]) :: fp) k) (fun v wr=>HQ wr fun ws=>GK st op fr bl fun f=>lQ T l ⟨(d,v) :: fr,wr ++ bl⟩ ((f,ws) :: fp) k):=by
 rw [QM]
 unfold rI GM GK
 show (match cE (call T) st (bJ (lk fr .any)) (lk bl none) op with | some (v,wr)=>_ | none=>none) = _
 cases cE (call T) st (bJ (lk fr .any)) (lk bl none) op with
 | none=>rfl
 | some r=>obtain ⟨v,wr⟩:=r; cases wr <;> rfl
theorem aAr (st:Nat) (op:fF) (l:List aR) (fr:List (Nat × V)) (bl:List (Nat × Option aJ)) (fp:List Fp) (k:St->List Fp->Option β) :
  lQ T (⟨none,op,none,st⟩ :: l) ⟨fr,bl⟩ fp k = rI T st op fr bl (fun _=>GK st op fr bl fun f=>lQ T l ⟨fr,bl⟩ ((f,[]) :: fp) k) (fun _ wr=>HQ wr fun ws=>GK st op fr bl fun f=>lQ T l ⟨fr,wr ++ bl⟩ ((f,ws) :: fp) k):=by
 rw [QM]
 unfold rI GM GK
 show (match cE (call T) st (bJ (lk fr .any)) (lk bl none) op with | some (v,wr)=>_ | none=>none) = _
 cases cE (call T) st (bJ (lk fr .any)) (lk bl none) op with
 | none=>rfl
 | some r=>obtain ⟨v,wr⟩:=r; cases wr <;> rfl
theorem aFZ (fr:List (Nat × V)) (bl:List (Nat × Option aJ)) (fp:List Fp) (k:St->List Fp->Option β):lQ T [] ⟨fr,bl⟩ fp k = k ⟨fr,bl⟩ fp:=rfl
theorem aNx {l:List aR} {ps:List (Nat × Nat)} {s:St} {fp:List Fp} (k:St->Option β) (h:MG l fp.reverse ps = true):aNp l ps k s fp = k s:=if_pos h
theorem DM {d:Option Nat} {st:Nat} {g g' : Option (Nat × Bool)} {fr:Nat->V} {bl:Nat->Option aJ} {wr:List (Nat × Option aJ)} (t:Nat) (b:Bool) (op:fF):xU ⟨d,M0 t b op,g,st⟩ fr bl wr = xU ⟨d,op,g',st⟩ fr bl wr:=by
 cases op with
 | pick c x y =>
  cases c with
  | t t' =>
   simp only [M0]
   split <;> rfl
  | c v=>rfl
 | _=>rfl
theorem aBq {C:Nat->List D->Option D} {s:St} {t:Nat} {b:Bool} (h:s.get t = .d (.bool b)) (o:aR):jC C (L8 t b o) s = jC C o s:=by
 obtain ⟨d,op,g,st⟩:=o
 cases g with
 | some g =>
  obtain ⟨t',w⟩:=g
  simp only [L8]
  split
  ·rename_i e
   subst e
   split
   ·rename_i e
    subst e
    simp only [jC,aR.wants,h,AY h]
    cases w <;> simp only [zQ] <;> cases cE C st (bJ s.get) s.blk op <;> first | rfl | (simp [DM (g':=some (t',false)),DM (g':=some (t',true))]; done) | (simp [DM (g':=some (t',false)),DM (g':=some (t',true))]; rfl)
   ·rename_i e
    simp only [jC,aR.wants,h,cE,bJ]
    cases w <;> cases b <;> simp_all [zQ,xU,fF.new,fF.peeks,fF.deeps]
  ·simp only [jC,aR.wants,AY h]
   cases zQ (s.get t') w <;> simp only [] <;> cases cE C st (bJ s.get) s.blk op <;> simp [DM (g':=some (t',w))]
 | none =>
  simp only [L8,jC,aR.wants,AY h]
  cases cE C st (bJ s.get) s.blk op <;> simp [DM (g':=none)]
theorem aCn {C:Nat->List D->Option D} {o:aR} {s s' : St} {p:Fp} {t:Nat} (h:¬ o.dst = some t) (e:jC C o s = some (s',p)):s'.get t = s.get t:=by
 unfold jC at e
 split at e
 ·split at e
  ·cases e; exact FU h
  ·cases e
 ·cases e; exact FU h
 ·cases e
theorem KZ {t:Nat} {b:Bool}:∀ (l:List aR) {s:St} (fp:List Fp) (k:St->List Fp->Option β) (h:s.get t = .d (.bool b)),lQ T (BI t b l) s fp k = lQ T l s fp k
 | [],s,fp,k,h=>rfl
 | o :: l,s,fp,k,h=>by
  simp only [BI,lQ,aBq h]
  cases e:jC (call T) o s with
  | none=>rfl
  | some q =>
   obtain ⟨s',p⟩:=q
   simp only
   split
   ·rfl
   ·rename_i hd
    exact KZ l _ k (by rw [aCn hd e]; exact h)
noncomputable def EY (T:vZ) (v:V) (t:Nat) (l:List aR) (s:St) (fp:List Fp) (k:St->List Fp->Option β):Option β:=match v with
 | .d (.bool b)=>if b = true then lQ T (BI t true l) s fp k else lQ T (BI t false l) s fp k
 | .tup []=>match l with
  | o :: r=>lQ T r (s.put o.dst (.tup []) []) (([],[]) :: fp) k
  | []=>none
 | _=>none
theorem YJ (d:Option Nat) (op:fF) (t:Nat) (w:Bool) (st:Nat) (l:List aR) (fr:List (Nat × V)) (bl:List (Nat × Option aJ)) (fp:List Fp) (k:St->List Fp->Option β) :
  lQ T (⟨d,op,some (t,w),st⟩ :: l) ⟨fr,bl⟩ fp k = iK fr t fun v=>EY T v t (⟨d,op,some (t,w),st⟩ :: l) ⟨fr,bl⟩ fp k:=by
 show _ = EY T (lk fr .any t) t _ _ fp k
 generalize hv:lk fr .any t = v
 have bad:∀ (q:zQ v w = .bad),lQ T (⟨d,op,some (t,w),st⟩ :: l) ⟨fr,bl⟩ fp k = none:=by
  intro q
  simp only [lQ,jC,aR.wants]
  rw [show (St.get ⟨fr,bl⟩ t) = v from hv,q]
 cases v with
 | d x =>
  cases x with
  | bool b =>
   simp only [EY]
   cases b with
   | true=>rw [if_pos rfl,KZ (t:=t) (b:=true) (s:=⟨fr,bl⟩) _ _ _ hv]
   | false=>rw [if_neg (by decide),KZ (t:=t) (b:=false) (s:=⟨fr,bl⟩) _ _ _ hv]
  | _=>exact bad rfl
 | tup vs =>
  cases vs with
  | nil =>
   simp only [EY,lQ,jC,aR.wants]
   rw [show (St.get ⟨fr,bl⟩ t) = _ from hv]
   rfl
  | cons x l=>exact bad rfl
 | _=>exact bad rfl
theorem aG1 (b:Bool) (t:Nat) (l:List aR) (s:St) (fp:List Fp) (k:St->List Fp->Option β):EY T (.d (.bool b)) t l s fp k = if b = true then lQ T (BI t true l) s fp k else lQ T (BI t false l) s fp k:=rfl
theorem aES (t d st:Nat) (op:fF) (g:Option (Nat × Bool)) (l:List aR) (fr:List (Nat × V)) (bl:List (Nat × Option aJ)) (fp:List Fp) (k:St->List Fp->Option β):EY T (.tup []) t (⟨some d,op,g,st⟩ :: l) ⟨fr,bl⟩ fp k = lQ T l ⟨(d,.tup []) :: fr,bl⟩ (([],[]) :: fp) k:=rfl
theorem aBr (t st:Nat) (op:fF) (g:Option (Nat × Bool)) (l:List aR) (fr:List (Nat × V)) (bl:List (Nat × Option aJ)) (fp:List Fp) (k:St->List Fp->Option β):EY T (.tup []) t (⟨none,op,g,st⟩ :: l) ⟨fr,bl⟩ fp k = lQ T l ⟨fr,bl⟩ (([],[]) :: fp) k:=rfl
theorem zP {l l' : List aR} {s:St} {fp:List Fp} {k:St->List Fp->Option β} (h:l = l'):lQ T l s fp k = lQ T l' s fp k:=by rw [h]
theorem aN0 (x:D) (ds:List D) (k:D->Option β):cU (x :: ds) 0 k = k x:=rfl
theorem aO8 (x:D) (ds:List D) (n:Nat) (k:D->Option β):cU (x :: ds) (n + 1) k = cU ds n k:=rfl
section
variable {d:Nat} {fr:List (Nat × V)} {bl:List (Nat × Option aJ)} {k:List Nat->Option β}
def IF (v:V) (k:List Nat->Option β):Option β:=k v.ids
theorem aQE (x:D):IF (.d x) k = k []:=rfl
theorem aHW:IF .nil k = k []:=rfl
theorem aLd:IF .any k = k []:=rfl
theorem aKJ (i o:Nat):IF (.ptr i o) k = k [i]:=rfl
theorem aKA (i o:Nat):IF (.own i o) k = k [i]:=rfl
theorem aEH (i v j o:Nat):IF (.orow i v j o) k = k [i]:=rfl
def rX (bl:List (Nat × Option aJ)):List V->(List Nat->Option β)->Option β
 | [],k=>k []
 | c :: cs,k=>k (c.dids1 (lk bl none) ++ cs.flatMap (V.dids1 (lk bl none)))
def zO (bl:List (Nat × Option aJ)) (v:V) (k:List Nat->Option β):Option β:=k (v.dids (lk bl none))
theorem vQ (cs:List V):rX bl cs k = k (cs.flatMap (V.dids1 (lk bl none))):=by cases cs <;> rfl
theorem aCa:rX bl [] k = k []:=rfl
theorem aIa (x:D) (cs:List V):rX bl (.d x :: cs) k = rX bl cs k:=by simp only [vQ]; rfl
theorem aH0 (cs:List V):rX bl (.nil :: cs) k = rX bl cs k:=by simp only [vQ]; rfl
theorem aBm (cs:List V):rX bl (.any :: cs) k = rX bl cs k:=by simp only [vQ]; rfl
theorem aBU (i o:Nat) (cs:List V):rX bl (.own i o :: cs) k = rX bl cs fun l=>k (i :: l):=by simp only [vQ]; rfl
theorem aOa (x:D):zO bl (.d x) k = k []:=rfl
theorem aFh:zO bl .nil k = k []:=rfl
theorem aHA (i o:Nat):zO bl (.own i o) k = k [i]:=rfl
theorem aFS (cs:List V):zO bl (.agg cs) k = rX bl cs k:=by rw [vQ]; rfl
theorem ZV (ds:List D):(aO ds).flatMap (V.dids1 (lk bl none)) = []:=by
 induction ds with
 | nil=>rfl
 | cons x ds ih=>exact ih
theorem aCw (ds:List D):zO bl (iX ds) k = k []:=by
 show k ((aO ds).flatMap (V.dids1 (lk bl none))) = _
 rw [ZV]
theorem ZC (ds:List D):(aO ds).flatMap V.ids1 = []:=by
 induction ds with
 | nil=>rfl
 | cons x ds ih=>exact ih
def rU:List V->(List Nat->Option β)->Option β
 | [],k=>k []
 | c :: cs,k=>k (c.ids1 ++ cs.flatMap V.ids1)
theorem vF (cs:List V):rU cs k = k (cs.flatMap V.ids1):=by cases cs <;> rfl
theorem aBL:rU [] k = k []:=rfl
theorem aKo (x:D) (cs:List V):rU (.d x :: cs) k = rU cs k:=by simp only [vF]; rfl
theorem aHR (cs:List V):rU (.nil :: cs) k = rU cs k:=by simp only [vF]; rfl
theorem aCy (cs:List V):rU (.any :: cs) k = rU cs k:=by simp only [vF]; rfl
theorem aCS (i o:Nat) (cs:List V):rU (.own i o :: cs) k = rU cs fun l=>k (i :: l):=by simp only [vF]; rfl
theorem aCW (i o:Nat) (cs:List V):rU (.ptr i o :: cs) k = rU cs fun l=>k (i :: l):=by simp only [vF]; rfl
def UW (b:Option aJ) (k:List Nat->Option β):Option β:=match b with
 | some (.box cs)=>k (cs.flatMap V.ids1)
 | _=>k []
theorem aEu (c:V) (cs:List V):UW (some (.box (c :: cs))) k = rU (c :: cs) k:=by rw [vF]; rfl
theorem W4 (ds:List D):UW (some (.box (aO ds))) k = k []:=by
 show k ((aO ds).flatMap V.ids1) = _
 rw [ZC]
theorem aCA (ds:List D):UW (some (.fbox ds)) k = k []:=rfl
theorem aDg:UW none k = k []:=rfl
theorem aJo (i o:Nat):(V.ptr i o).dids1 (lk bl none) = i :: (match lk bl none i with | some (.box cs)=>cs.flatMap V.ids1 | _=>[]):=rfl
theorem aGC (i o:Nat):zO bl (.ptr i o) k = bC bl i fun b=>UW b fun l=>k (i :: l):=by
 unfold zO bC UW
 show k ((V.ptr i o).dids1 (lk bl none)) = _
 rw [aJo]
 cases lk bl none i with
 | none=>rfl
 | some b=>cases b <;> rfl
theorem aBE (i o:Nat) (cs:List V):rX bl (.ptr i o :: cs) k = zO bl (.ptr i o) fun m=>rX bl cs fun l=>k (m ++ l):=by simp only [vQ]; rfl
theorem aKb:GK d .fail fr bl k = k []:=rfl
theorem aH3 (x:bL):GK d (.move x) fr bl k = k []:=rfl
theorem aKB (a b c:bL):GK d (.pick a b c) fr bl k = k []:=rfl
theorem aGn (z:List V):GK d (.alloc z) fr bl k = k [d]:=rfl
theorem aNd (x:bL):GK d (.box x) fr bl k = k [d]:=rfl
theorem aHB (z:List V) (ps:List (Nat × Nat × bL)):GK d (.build z ps) fr bl k = k []:=rfl
theorem ST (e s b:Nat) (z:List D) (x y:bL):GK d (.makeSlice e s b z x y) fr bl k = k [d]:=rfl
theorem fp1 (l:List Nat):([]:List Nat) ++ ((l ++ []) ++ []) = l:=by simp
theorem aIJ (s:Nat) (a:Bool) (x:bL):GK d (.load s a x) fr bl k = bW fr x fun v=>IF v k:=by
 show k ([] ++ (((bJ (lk fr .any) x).ids ++ []) ++ [])) = _
 rw [fp1]; rfl
theorem VA (x:bL):GK d (.nilCheck x) fr bl k = bW fr x fun v=>IF v k:=by
 show k ([] ++ (((bJ (lk fr .any) x).ids ++ []) ++ [])) = _
 rw [fp1]; rfl
theorem TE (o:Nat) (x:bL):GK d (.fieldAddr o x) fr bl k = bW fr x fun v=>IF v k:=by
 show k ([] ++ (((bJ (lk fr .any) x).ids ++ []) ++ [])) = _
 rw [fp1]; rfl
theorem aOW (x:bL):GK d (.len x) fr bl k = bW fr x fun v=>IF v k:=by
 show k ([] ++ (((bJ (lk fr .any) x).ids ++ []) ++ [])) = _
 rw [fp1]; rfl
theorem aHs (s:Nat) (x:bL) (lo hi:Option bL):GK d (.slice s x lo hi) fr bl k = bW fr x fun v=>IF v k:=by
 show k ([] ++ (((bJ (lk fr .any) x).ids ++ []) ++ [])) = _
 rw [fp1]; rfl
theorem TG (s:Nat) (x i:bL):GK d (.indexAddr s x i) fr bl k = bW fr x fun v=>IF v k:=by
 show k ([] ++ (((bJ (lk fr .any) x).ids ++ []) ++ [])) = _
 rw [fp1]; rfl
theorem aFw (s:Nat) (x v:bL):GK d (.store s x v) fr bl k = bW fr x fun a=>IF a fun l=>bW fr v fun b=>zO bl b fun m=>k (l ++ m):=by
 show k ([] ++ (((bJ (lk fr .any) x).ids ++ []) ++ ((bJ (lk fr .any) v).dids (lk bl none) ++ []))) = _
 rw [List.nil_append,List.append_nil,List.append_nil]; rfl
theorem aBb (e s b:Nat) (x y:bL):GK d (.append e s b x y) fr bl k = bW fr x fun u=>IF u fun l=>bW fr y fun v=>IF v fun m=>k (d :: (l ++ m)):=by
 show k ([d] ++ (((bJ (lk fr .any) x).ids ++ ((bJ (lk fr .any) y).ids ++ [])) ++ [])) = _
 rw [List.append_nil,List.append_nil]; rfl
def DG (fr:List (Nat × V)) (bl:List (Nat × Option aJ)):List bL->(List Nat->Option β)->Option β
 | [],k=>k []
 | x :: l,k=>bW fr x fun v=>zO bl v fun m=>DG fr bl l fun n=>k (m ++ n)
theorem I0 (l:List bL):∀ (k:List Nat->Option β),DG fr bl l k = k (l.flatMap fun x=>(bJ (lk fr .any) x).dids (lk bl none)):=by
 induction l with
 | nil=>intro k; rfl
 | cons x l ih=>intro k; simp only [DG,bW,zO,ih,List.flatMap_cons]
theorem aA6 (k:List Nat->Option β):DG fr bl [] k = k []:=rfl
theorem X2 (x:bL) (l:List bL) (k:List Nat->Option β):DG fr bl (x :: l) k = bW fr x fun v=>zO bl v fun m=>DG fr bl l fun n=>k (m ++ n):=rfl
theorem aIz (f:Nat) (args:List bL):GK d (.call f args) fr bl k = DG fr bl args k:=by
 rw [I0]; rfl
theorem aJN (f:Nat) (args:List bL):GK d (.mkfn f args) fr bl k = DG fr bl args k:=by
 rw [I0]; rfl
theorem aFK (g:bL) (args:List bL):GK d (.callv g args) fr bl k = DG fr bl args k:=by
 rw [I0]; rfl
def K2 (fr:List (Nat × V)) (bl:List (Nat × Option aJ)):List (Nat × bL)->(List Nat->Option β)->Option β
 | [],k=>k []
 | (_,x) :: l,k=>bW fr x fun v=>zO bl v fun m=>K2 fr bl l fun n=>k (m ++ n)
theorem aE2 (l:List (Nat × bL)):∀ (k:List Nat->Option β),K2 fr bl l k = k ((l.map fun p=>p.2).flatMap fun x=>(bJ (lk fr .any) x).dids (lk bl none)):=by
 induction l with
 | nil=>intro k; rfl
 | cons x l ih=>intro k; obtain ⟨i,x⟩:=x; simp only [K2,bW,zO,ih,List.map_cons,List.flatMap_cons]
theorem aCd (k:List Nat->Option β):K2 fr bl [] k = k []:=rfl
theorem XL (i:Nat) (x:bL) (l:List (Nat × bL)) (k:List Nat->Option β):K2 fr bl ((i,x) :: l) k = bW fr x fun v=>zO bl v fun m=>K2 fr bl l fun n=>k (m ++ n):=rfl
theorem QY (e s n:Nat) (z:List D) (ps:List (Nat × bL)):GK d (.buildSlice e s z n ps) fr bl k = K2 fr bl ps fun l=>k (d :: l):=by
 rw [aE2]; rfl
theorem aOJ (c:Nat) (op:BinOp) (x y:bL):GK d (.bin c op x y) fr bl k = k []:=rfl
theorem aMU (ks:List Nat) (n:Bool) (x y:bL):GK d (.eqS ks n x y) fr bl k = k []:=rfl
theorem aRg (op:UnOp) (x:bL):GK d (.un op x) fr bl k = k []:=rfl
theorem aHS (kd:IntKind) (x:bL):GK d (.conv kd x) fr bl k = k []:=rfl
theorem WJ (x:bL) (lo hi:Option bL):GK d (.strSlice x lo hi) fr bl k = k []:=rfl
theorem aFA (o s:Nat) (a:Bool) (x:bL):GK d (.field o s a x) fr bl k = k []:=rfl
theorem aHk (x i:bL):GK d (.index x i) fr bl k = k []:=rfl
theorem aKQ (x:bL):GK d (.lenS x) fr bl k = k []:=rfl
theorem aMr (l:List bL):GK d (.max l) fr bl k = k []:=rfl
theorem aNA (l:List bL):GK d (.min l) fr bl k = k []:=rfl
theorem aHe (x:bL):GK d (.bytes x) fr bl k = k []:=rfl
theorem aAm (x:bL) (i:Nat):GK d (.extract x i) fr bl k = k []:=rfl
theorem aKZ {k:Ex->St->Option β} (l:List aR) (ps:List (Nat × Nat)):bU T (.region l (some ps)) ⟨fr,bl⟩ k = lQ T l ⟨fr,bl⟩ [] (aNp l ps (k .normal)):=by
 rw [aH4,aPj]
end
section
variable {d:Nat} {fr:List (Nat × V)} {bl:List (Nat × Option aJ)} {k:V->Option β} {kw:V->List (Nat × Option aJ)->Option β}
theorem aRZ (a b c:List (Nat × Option aJ)) (v:V):fzK ((a ++ b) ++ c) v k kw = fzK (a ++ (b ++ c)) v k kw:=by rw [List.append_assoc]
def fzN (id:Nat) (f:List (Nat × Option aJ)) (x:Option β):Option β:=if BH id f = true then x else none
theorem UV (id:Nat) (b:List (Nat × Option aJ)):∀ a:List (Nat × Option aJ),BH id (a ++ b) = if BH id a = true then BH id b else false
 | []=>rfl
 | (i,x) :: a=>by
  simp only [List.cons_append,BH]
  by_cases h:i = id
  ·simp [h]
  ·simp only [if_neg h]; exact UV id b a
theorem aPD (id:Nat) (x:Option β):fzN id [] x = x:=rfl
theorem aSV (id i:Nat) (b:Option aJ) (w:List (Nat × Option aJ)) (x:Option β) (h:(i == id) = false):fzN id ((i,b) :: w) x = fzN id w x:=by
 have h:¬ i = id:=by simpa using h
 simp only [fzN,BH,if_neg h]
theorem aL7 (id:Nat) (a b:List (Nat × Option aJ)) (x:Option β):fzN id (a ++ b) x = fzN id a (fzN id b x):=by
 unfold fzN
 rw [UV]
 by_cases h:BH id a = true
 ·rw [if_pos h,if_pos h]
 ·rw [if_neg h,if_neg h]; rfl
def bK (row:List D) (off:Nat) (ds:List D) (size:Nat) (k:List D->Option β):Option β:=if ds.length = size ∧ off + size <= row.length then k (iM row off ds) else none
theorem V2 (c:D) (cs:List D) (off:Nat) (e:D) (ds:List D) (n:Nat) (k:List D->Option β):bK (c :: cs) (off + 1) (e :: ds) n k = bK cs off (e :: ds) n fun l=>k (c :: l):=by
 unfold bK
 simp only [List.length_cons,iM]
 by_cases h:ds.length + 1 = n ∧ off + n <= cs.length
 ·exact (if_pos (by omega)).trans (if_pos h).symm
 ·exact (if_neg (by omega)).trans (if_neg h).symm
theorem aAt (c:D) (cs:List D) (e:D) (ds:List D) (n:Nat) (k:List D->Option β):bK (c :: cs) 0 (e :: ds) (n + 1) k = bK cs 0 ds n fun l=>k (e :: l):=by
 unfold bK
 simp only [List.length_cons,iM]
 by_cases h:ds.length = n ∧ 0 + n <= cs.length
 ·exact (if_pos (by omega)).trans (if_pos h).symm
 ·exact (if_neg (by omega)).trans (if_neg h).symm
theorem ZW (cs:List D) (k:List D->Option β):bK cs 0 [] 0 k = k cs:=by
 unfold bK
 rw [if_pos ⟨rfl,by omega⟩,TK]
def zW (e:Nat) (rows:List (List D)) (i:Nat) (row:List D) (k:List (List D)->Option β):Option β:=k (rows.set i row)
theorem BJ {α:Type} (e:Nat) (c:α->List D) (xs:List α) (i:Nat) (x:α) (k:List (List D)->Option β):zW e (cM c xs) i (c x) k = k (cM c (xs.set i x)):=by
 unfold zW
 rw [aQA]
theorem aPW {α:Type} (size v i off id e sz:Nat) (w:V) (c:α->List D) (xs:List α):MA size v i off id w bl (some (.rows v e sz (cM c xs))) kw = L3 w bl fun ds f=>fzN id f (xs[i]?.bind fun x=>bK (c x) off ds size fun row=>zW e (cM c xs) i row fun rows=>kw .any ((id,some (.rows v e sz rows)) :: f)):=by
 unfold MA L3
 simp only [Q0,if_true,cM,List.getElem?_map]
 cases xs[i]? with
 | none =>
  simp only [Option.map_none,Option.bind_none]
  cases aM (iN (lk bl none)) w.cells with
  | none=>rfl
  | some ds=>simp only [fzN]; split <;> rfl
 | some x =>
  simp only [Option.map_some,Option.bind_some]
  cases aM (iN (lk bl none)) w.cells with
  | none=>rfl
  | some ds =>
   simp only [bK,zW,fzN]
   by_cases h1:BH id (vT (lk bl none) w) = true
   ·rw [if_pos h1]
    by_cases h2:ds.length = size ∧ off + size <= (c x).length
    ·rw [if_pos h2,if_pos ⟨h2.1,h2.2,h1⟩]; rfl
    ·rw [if_neg h2,if_neg (fun q=>h2 ⟨q.1,q.2.1⟩)]; rfl
   ·rw [if_neg h1,if_neg (fun q=>h1 q.2.2)]; rfl
end
end
section
variable {β:Type} {T:vZ} {bl:List (Nat × Option aJ)} {k:V->Option β} {kw:V->List (Nat × Option aJ)->Option β}
def uG (size id ver:Nat) (lo hi:Option V) (b:Option aJ) (k:V->Option β) (kw:V->List (Nat × Option aJ)->Option β):Option β:=FN (v7 (fun _=>b) size (.own id ver) lo hi) k kw
theorem aCI (size id ver:Nat) (lo hi:Option V):ES size (.own id ver) lo hi bl k kw = bC bl id fun b=>uG size id ver lo hi b k kw:=by
 unfold ES bC uG
 congr 1
 cases lo with
 | none=>cases hi with
  | none=>rfl
  | some h=>cases h with
   | d x=>cases x <;> rfl
   | _=>rfl
 | some l=>rfl
theorem vO {α:Type} (size id v:Nat) (c:α->List D) (xs:List α) (hs:sized size (cM c xs) = true) (b:aJ) (wr:List (Nat × Option aJ)) (lo hi:Option V) (l h:Int) (hl:C4 lo 0 = some l) (hh:C4 hi (xs.length:Int) = some h)
  (hb:fV (fun _=>some b) (.own id v) = some (cM c xs)) (hw:AX (fun _=>some b) (.own id v) = wr) (hn:lo = none->hi = none) :
  uG size id v lo hi (some b) k kw = if kN xs.length l h then FN (some (.d (.sl (cM c (nN xs l h))),wr)) k kw else none:=by
 have e0:v7 (fun _=>some b) size (.own id v) lo hi = (match C4 hi ((cM c xs).length:Int),C4 lo 0 with
   | some h,some l=>if 0 <= l ∧ l <= h ∧ h.toNat <= (cM c xs).length ∧ sized size (cM c xs) = true then some (.d (.sl (((cM c xs).take h.toNat).drop l.toNat)),wr) else none
   | _,_=>none):=by
  cases lo with
  | none =>
   obtain rfl:=hn rfl
   unfold v7
   simp only [hb,hw]
   rfl
  | some w =>
   unfold v7
   simp only [hb,hw]
   rfl
 unfold uG
 rw [e0,show ((cM c xs).length:Int) = (xs.length:Int) by simp [cM],hl,hh]
 simp only [show (cM c xs).length = xs.length by simp [cM]]
 by_cases q:kN xs.length l h
 ·rw [if_pos q,if_pos ⟨q.1,q.2.1,q.2.2,hs⟩]
  simp only [cM,nN,List.map_drop,List.map_take]
 ·rw [if_neg q,if_neg (fun w=>q ⟨w.1,w.2.1,w.2.2.1⟩)]; rfl
section
variable {α:Type} (size id v:Nat) (c:α->List D) (xs:List α) (hs:sized size (cM c xs) = true)
include hs
theorem aBT (e s:Nat) (kd:IntKind) (l:Int):uG size id v (some (.d (.int kd l))) none (some (.rows v e s (cM c xs))) k kw = if kN xs.length l (xs.length:Int) then kw (.d (.sl (cM c (nN xs l (xs.length:Int))))) [(id,some (.froz v (cM c xs)))] else none :=
 vO size id v c xs hs _ _ _ _ _ _ rfl rfl (by simp [fV]) rfl (fun h=>by cases h)
theorem aCm (e s:Nat) (kd kd' : IntKind) (l h:Int):uG size id v (some (.d (.int kd l))) (some (.d (.int kd' h))) (some (.rows v e s (cM c xs))) k kw = if kN xs.length l h then kw (.d (.sl (cM c (nN xs l h)))) [(id,some (.froz v (cM c xs)))] else none :=
 vO size id v c xs hs _ _ _ _ _ _ rfl rfl (by simp [fV]) rfl (fun h=>by cases h)
theorem aC2 (e s:Nat):uG size id v none none (some (.rows v e s (cM c xs))) k kw = if kN xs.length 0 (xs.length:Int) then kw (.d (.sl (cM c (nN xs 0 (xs.length:Int))))) [(id,some (.froz v (cM c xs)))] else none :=
 vO size id v c xs hs _ _ _ _ _ _ rfl rfl (by simp [fV]) rfl (fun _=>rfl)
theorem aCH (kd:IntKind) (l:Int):uG size id v (some (.d (.int kd l))) none (some (.froz v (cM c xs))) k kw = if kN xs.length l (xs.length:Int) then k (.d (.sl (cM c (nN xs l (xs.length:Int))))) else none :=
 vO size id v c xs hs _ _ _ _ _ _ rfl rfl (by simp [fV]) rfl (fun h=>by cases h)
theorem aBO (kd kd' : IntKind) (l h:Int):uG size id v (some (.d (.int kd l))) (some (.d (.int kd' h))) (some (.froz v (cM c xs))) k kw = if kN xs.length l h then k (.d (.sl (cM c (nN xs l h)))) else none :=
 vO size id v c xs hs _ _ _ _ _ _ rfl rfl (by simp [fV]) rfl (fun h=>by cases h)
theorem aDa:uG size id v none none (some (.froz v (cM c xs))) k kw = if kN xs.length 0 (xs.length:Int) then k (.d (.sl (cM c (nN xs 0 (xs.length:Int))))) else none :=
 vO size id v c xs hs _ _ _ _ _ _ rfl rfl (by simp [fV]) rfl (fun _=>rfl)
end
theorem aCQ {α:Type} (size id v e s:Nat) (c:α->List D) (xs:List α) (kd:IntKind) (h:Int):uG size id v none (some (.d (.int kd h))) (some (.rows v e s (cM c xs))) k kw = if 0 <= h ∧ h.toNat <= xs.length then kw (.own id (v + 1)) [(id,some (.rows (v + 1) e s (cM c (xs.take h.toNat))))] else none:=by
 unfold uG v7
 simp only [cM,List.length_map,true_and,List.map_take]
 split <;> rfl
end
end Vm
end Go.Proofs.Ytgjcnbgfaimepaa
namespace Go.Proofs.Ytgjcnbgfaimepaa
namespace Vm
open Go.RowKit
section
variable {β:Type} {T:vZ} {d:Nat} {fr:List (Nat × V)} {bl:List (Nat × Option aJ)} {k:V->Option β} {kw:V->List (Nat × Option aJ)->Option β}
def aQr (size:Nat) (a:V) (lo hi:Option V) (bl:List (Nat × Option aJ)) (kw:V->List (Nat × Option aJ)->Option β):Option β:=match KH (lk bl none) size a lo hi with
 | some (v,wr)=>kw v wr
 | none=>none
def QU (size id ver:Nat) (lo hi:Option V) (b:Option aJ) (kw:V->List (Nat × Option aJ)->Option β):Option β:=match KH (fun _=>b) size (.own id ver) lo hi with
 | some (v,wr)=>kw v wr
 | none=>none
theorem aNK {bl:Nat->Option aJ} {size:Nat} {a:V} {lo hi:Option V} {v:V} {wr:List (Nat × Option aJ)} (h:KH bl size a lo hi = some (v,wr)):∃ p l,wr = p :: l:=by
 unfold KH at h
 split at h
 ·split at h
  ·split at h
   ·split at h
    ·cases h; exact ⟨_,_,rfl⟩
    ·cases h
   ·cases h
  ·cases h
 ·cases h
theorem aMK (size:Nat) (x:bL) (lo hi:Option bL):rI T d (.cut size x lo hi) fr bl k kw = bW fr x fun a=>aCL fr lo fun l=>aCL fr hi fun h=>aQr size a l h bl kw:=by
 rw [iY]
 simp only [cE]
 have e:∀ (o:Option bL) (g:Option V->Option β),aCL fr o g = g (o.map (bJ (lk fr .any))):=fun o g=>by cases o <;> rfl
 simp only [e,bW,aQr,FN]
 cases h:KH (lk bl none) size (bJ (lk fr .any) x) (lo.map (bJ (lk fr .any))) (hi.map (bJ (lk fr .any))) with
 | none=>rfl
 | some r =>
  obtain ⟨v,wr⟩:=r
  obtain ⟨p,l,rfl⟩:=aNK h
  rfl
theorem aKa (size id ver:Nat) (lo hi:Option V):aQr size (.own id ver) lo hi bl kw = bC bl id fun b=>QU size id ver lo hi b kw:=rfl
theorem aJK {α:Type} (c:α->List D) (xs:List α) (e s id v:Nat) (kd:IntKind) (l:Int):QU s id v (some (.d (.int kd l))) none (some (.rows v e s (cM c xs))) kw = if kN xs.length l (xs.length:Int) then kw (.own id (v + 1)) [(id,some (.rows (v + 1) e s (cM c (nN xs l (xs.length:Int)))))] else none:=by
 have e1:(cM c xs).length = xs.length:=List.length_map ..
 have e2:((cM c xs).take (Int.toNat (xs.length:Int))).drop l.toNat = cM c (nN xs l (xs.length:Int)):=by unfold cM nN; rw [List.map_drop,List.map_take]
 by_cases h:kN xs.length l (xs.length:Int)
 ·rw [if_pos h]
  simp only [QU,KH,e1,e2]
  rw [if_pos ⟨trivial,trivial,h⟩]
 ·rw [if_neg h]
  simp only [QU,KH,e1,e2]
  rw [if_neg fun q=>h q.2.2]
theorem aKX {α:Type} (c:α->List D) (xs:List α) (e s id v:Nat) (kd kd' : IntKind) (l m:Int):QU s id v (some (.d (.int kd l))) (some (.d (.int kd' m))) (some (.rows v e s (cM c xs))) kw = if kN xs.length l m then kw (.own id (v + 1)) [(id,some (.rows (v + 1) e s (cM c (nN xs l m))))] else none:=by
 have e1:(cM c xs).length = xs.length:=List.length_map ..
 have e2:((cM c xs).take m.toNat).drop l.toNat = cM c (nN xs l m):=by unfold cM nN; rw [List.map_drop,List.map_take]
 by_cases h:kN xs.length l m
 ·rw [if_pos h]
  simp only [QU,KH,e1,e2]
  rw [if_pos ⟨trivial,trivial,h⟩]
 ·rw [if_neg h]
  simp only [QU,KH,e1,e2]
  rw [if_neg fun q=>h q.2.2]
def WW (z:List D) (a:V) (bl:List (Nat × Option aJ)) (k:V->Option β) (kw:V->List (Nat × Option aJ)->Option β):Option β:=FN (match a with
  | .nil=>some (.any,[])
  | .own id ver=>match lk bl none id with
   | some (.rows v e size rows)=>if ver = v ∧ z.length = size then some (.any,[(id,some (.rows v e size (List.replicate rows.length z)))]) else none
   | _=>none
  | _=>none) k kw
def aEn (z:List D) (id ver:Nat) (b:Option aJ) (kw:V->List (Nat × Option aJ)->Option β):Option β:=match b with
 | some (.rows v e size rows)=>if ver = v ∧ z.length = size then kw .any [(id,some (.rows v e size (List.replicate rows.length z)))] else none
 | _=>none
def RY (neg:Bool) (a:V) (bl:List (Nat × Option aJ)) (k:V->Option β):Option β:=match KJ (lk bl none) neg a with
 | some d=>k (.d d)
 | none=>none
def I3 (neg:Bool) (ver:Nat) (b:Option aJ) (k:V->Option β):Option β:=match b with
 | some (.rows v _ _ rows)=>if ver = v ∧ 0 < rows.length then k (.d (.bool neg)) else none
 | some (.froz v rows)=>if ver = v ∧ 0 < rows.length then k (.d (.bool neg)) else none
 | _=>none
theorem WG {α:Type} (c:α->List D) (xs:List α) (neg:Bool) (v e size:Nat):I3 neg v (some (.rows v e size (cM c xs))) k = if 0 < xs.length then k (.d (.bool neg)) else none:=by
 unfold I3
 simp only [vG,true_and]
theorem WI {α:Type} (c:α->List D) (xs:List α) (neg:Bool) (v:Nat):I3 neg v (some (.froz v (cM c xs))) k = if 0 < xs.length then k (.d (.bool neg)) else none:=by
 unfold I3
 simp only [vG,true_and]
theorem aEw (neg:Bool) (x:bL):rI T d (.isnil neg x) fr bl k kw = bW fr x fun a=>RY neg a bl k:=by
 unfold rI bW RY
 simp only [cE,JZ.v]
 cases KJ (lk bl none) neg (bJ (lk fr .any) x) <;> rfl
theorem aB6 (neg:Bool):RY neg .nil bl k = k (.d (.bool (!neg))):=rfl
theorem aAN (neg:Bool) (id ver:Nat):RY neg (.own id ver) bl k = bC bl id fun b=>I3 neg ver b k:=by
 unfold RY KJ I3 bC
 simp only [fV]
 cases lk bl none id with
 | none=>rfl
 | some b =>
  cases b with
  | rows v e size rows =>
   simp only
   by_cases q:ver = v
   ·cases rows <;> simp [q]
   ·simp [q]
  | froz v rows =>
   simp only
   by_cases q:ver = v
   ·cases rows <;> simp [q]
   ·simp [q]
  | _=>rfl
theorem aGp (z:List D) (x:bL):rI T d (.clear z x) fr bl k kw = bW fr x fun a=>WW z a bl k kw:=by
 rw [iY]
 rfl
theorem aAM (z:List D):WW z .nil bl k kw = k .any:=rfl
theorem aC5 (z:List D) (id ver:Nat):WW z (.own id ver) bl k kw = bC bl id fun b=>aEn z id ver b kw:=by
 unfold WW bC aEn
 simp only
 cases lk bl none id with
 | none=>rfl
 | some b =>
  cases b with
  | rows v e size rows =>
   simp only
   split <;> rfl
  | _=>rfl
def aHi:List bL->Nat->(bL->Option β)->Option β
 | [],_,_=>none
 | x :: _,0,g=>g x
 | _ :: l,n + 1,g=>aHi l n g
theorem aR9 (x:bL) (l:List bL) (g:bL->Option β):aHi (x :: l) 0 g = g x:=rfl
theorem aQD (x:bL) (l:List bL) (n:Nat) (g:bL->Option β):aHi (x :: l) (n + 1) g = aHi l n g:=rfl
theorem aDz (g:bL->Option β):∀ (l:List bL) (n:Nat),aHi l n g = l[n]?.bind g
 | [],_=>rfl
 | _ :: _,0=>rfl
 | _ :: l,n + 1=>aDz g l n
def WQ (v:V) (g:Nat->Nat->Option β):Option β:=match v with
 | .own id ver=>g id ver
 | _=>none
theorem aQC (id ver:Nat) (g:Nat->Nat->Option β):WQ (.own id ver) g = g id ver:=rfl
def YB (v:V) (bl:List (Nat × Option aJ)) (g:D->Option β):Option β:=(L1 (lk bl none) v).bind g
def aCo (ver:Nat) (b:Option aJ) (g:D->Option β):Option β:=match b with
 | some (.rows v e size rows)=>if ver = v then g (.own (.ref 0) [(e,size)] [rows]) else none
 | _=>none
theorem aHh (id ver:Nat) (g:D->Option β):YB (.own id ver) bl g = bC bl id fun b=>aCo ver b g:=by
 unfold YB bC aCo L1
 simp only
 cases lk bl none id with
 | none=>rfl
 | some b =>
  cases b with
  | rows v e size rows=>simp only; split <;> rfl
  | _=>rfl
theorem ZR (v e s:Nat) (rows:List (List D)) (g:D->Option β):aCo v (some (.rows v e s rows)) g = g (.own (.ref 0) [(e,s)] [rows]):=if_pos rfl
def F9 (fr:List (Nat × V)) (bl:List (Nat × Option aJ)) (t:Nat):Nat->List bL->(List D->List (Nat × Option aJ)->Option β)->Option β
 | _,[],g=>g [] []
 | i,x :: l,g=>bW fr x fun v=>if i = t then YB v bl fun y=>F9 fr bl t (i + 1) l fun ds f=>g (y :: ds) f else B0 v bl fun y f=>F9 fr bl t (i + 1) l fun ds f'=>g (y :: ds) (f ++ f')
theorem aFY (t i:Nat) (g:List D->List (Nat × Option aJ)->Option β):F9 fr bl t i [] g = g [] []:=rfl
theorem aFE (t i:Nat) (x:bL) (l:List bL) (g:List D->List (Nat × Option aJ)->Option β) (h:(i == t) = true):F9 fr bl t i (x :: l) g = bW fr x fun v=>YB v bl fun y=>F9 fr bl t (i + 1) l fun ds f=>g (y :: ds) f:=by
 have:i = t:=by simpa using h
 simp only [F9,if_pos this]
theorem aBD (t i:Nat) (x:bL) (l:List bL) (g:List D->List (Nat × Option aJ)->Option β) (h:(i == t) = false):F9 fr bl t i (x :: l) g = bW fr x fun v=>B0 v bl fun y f=>F9 fr bl t (i + 1) l fun ds f'=>g (y :: ds) (f ++ f'):=by
 have:¬ i = t:=by simpa using h
 simp only [F9,if_neg this]
theorem QH (t:Nat):∀ (l:List bL) (i:Nat) (g:List D->List (Nat × Option aJ)->Option β),F9 fr bl t i l g = (DU (lk bl none) t i (l.map (bJ (lk fr .any)))).bind fun ds=>g ds (s8 (lk bl none) t i (l.map (bJ (lk fr .any))))
 | [],i,g=>rfl
 | x :: l,i,g=>by
  simp only [F9,List.map_cons,DU,s8,bW]
  by_cases h:i = t
  ·simp only [if_pos h,YB,QH t l (i + 1)]
   cases L1 (lk bl none) (bJ (lk fr .any) x) with
   | none=>rfl
   | some y =>
    cases DU (lk bl none) t (i + 1) (l.map (bJ (lk fr .any))) with
    | none=>rfl
    | some ds=>simp
  ·simp only [if_neg h,B0,QH t l (i + 1)]
   cases iP (lk bl none) (bJ (lk fr .any) x) with
   | none=>rfl
   | some y=>cases DU (lk bl none) t (i + 1) (l.map (bJ (lk fr .any))) <;> rfl
noncomputable def PB (T:vZ) (bl:List (Nat × Option aJ)) (f id ver:Nat) (ds:List D) (kw:V->List (Nat × Option aJ)->Option β):Option β:=match call T f ds with
 | some (.own y [(e,size)] [rows'])=>match lk bl none id with
  | some (.rows v e' size' _)=>if ver = v ∧ e = e' ∧ size = size' ∧ HK y = true ∧ oM rows' = true then kw (toV y) [(id,some (.rows v e size rows'))] else none
  | _=>none
 | _=>none
theorem aLR (f:Nat) (args:List bL) (t:Nat):rI T d (.lend f args t) fr bl k kw = aHi args t fun x=>bW fr x fun v=>WQ v fun id ver=>F9 fr bl t 0 args fun ds fz=>fzN id fz (PB T bl f id ver ds kw):=by
 rw [iY,aDz]
 simp only [cE,List.getElem?_map]
 cases args[t]? with
 | none=>rfl
 | some x =>
  simp only [Option.map_some,Option.bind_some,bW]
  generalize bJ (lk fr .any) x = v
  cases v with
  | own id ver =>
   simp only [WQ,QH]
   cases DU (lk bl none) t 0 (args.map (bJ (lk fr .any))) with
   | none=>rfl
   | some ds =>
    simp only [Option.bind_some,fzN]
    split
    ·unfold PB
     generalize call T f ds = r
     generalize lk bl none id = b
     split
     ·split
      ·split
       ·rename_i hq
        exact (if_pos hq).symm
       ·rename_i hq
        exact (if_neg hq).symm
      ·rename_i hq
       cases b with
       | none=>rfl
       | some b=>cases b <;> first | rfl | exact absurd rfl (hq _ _ _ _)
     ·rename_i hq
      split
      ·exact absurd rfl (hq _ _ _ _)
      ·rfl
    ·rfl
  | _=>rfl
def K3 (ver e size:Nat) (rows' : List (List D)) (b:Option aJ) (g:Option aJ->Option β):Option β:=match b with
 | some (.rows v e' s' _)=>if ver = v ∧ e = e' ∧ size = s' then g (some (.rows v e size rows')) else none
 | _=>none
theorem YK (v e s:Nat) (rows rows' : List (List D)) (g:Option aJ->Option β):K3 v e s rows' (some (.rows v e s rows)) g = g (some (.rows v e s rows')):=if_pos ⟨rfl,rfl,rfl⟩
theorem I6 {α:Type} {f e size:Nat} {ds:List D} {o:Option α} {y:α->D} {r:α->List (List D)} (h:call T f ds = o.map fun x=>.own (y x) [(e,size)] [r x]) (hy:∀ x,HK (y x) = true) (hr:∀ x,oM (r x) = true) (id ver:Nat) :
  PB T bl f id ver ds kw = o.bind fun x=>bC bl id fun b=>K3 ver e size (r x) b fun b'=>kw (toV (y x)) [(id,b')]:=by
 unfold PB
 rw [h]
 cases o with
 | none=>rfl
 | some x =>
  simp only [Option.map_some,Option.bind_some,bC,K3,hy x,hr x,and_true]
theorem oB {α:Type} (c:α->List D) (hc:∀ x,(c x).all F6 = true) (xs:List α):oM (cM c xs) = true:=by
 unfold oM cM
 rw [List.all_eq_true]
 intro row hr
 obtain ⟨x,_,rfl⟩:=List.mem_map.1 hr
 exact hc x
def aPH (res:List jW) (t:Nat):Ex->St->Option D
 | .normal,s=>yE ⟨0,0,res,.skip,true,true⟩ s t
 | .ret,s=>yE ⟨0,0,res,.skip,true,true⟩ s t
 | .exit _,_=>none
def YV (ver:Nat) (b:Option aJ) (g:Nat->Nat->List (List D)->Option D):Option D:=match b with
 | some (.rows v e size rows)=>if ver = v then g e size rows else none
 | _=>none
theorem aBV (v e s:Nat) (rows:List (List D)) (g:Nat->Nat->List (List D)->Option D):YV v (some (.rows v e s rows)) g = g e s rows:=if_pos rfl
def N7 (e s:Nat) (rows:List (List D)) (y:D):Option D:=if HK y = true then some (.own y [(e,s)] [rows]) else none
theorem aLZ (e s:Nat) (rows:List (List D)):N7 e s rows (.tup []) = some (.own (.tup []) [(e,s)] [rows]):=rfl
theorem aII (e s:Nat) (rows:List (List D)) (k:IntKind) (n:Int):N7 e s rows (.int k n) = some (.own (.int k n) [(e,s)] [rows]):=rfl
theorem aJs (e s:Nat) (rows:List (List D)) (b:Bool):N7 e s rows (.bool b) = some (.own (.bool b) [(e,s)] [rows]):=rfl
theorem aDQ (res:List jW) (t:Nat):yE ⟨0,0,res,.skip,true,true⟩ ⟨fr,bl⟩ t = iK fr t fun v=>WQ v fun id ver=>bC bl id fun b=>YV ver b fun e s rows=>(J0 fr bl res MS).bind (N7 e s rows):=by
 unfold yE iK
 rw [CY]
 cases lk fr .any t with
 | own id ver =>
  simp only [WQ,bC,YV]
  rw [DD]
  cases lk bl none id with
  | none=>rfl
  | some b =>
   cases b with
   | rows v e size rows =>
    simp only
    split
    ·rw [← WT]
     cases aM (s9 ⟨fr,bl⟩) res with
     | none=>rfl
     | some us =>
      cases us with
      | nil=>rfl
      | cons u us=>cases us with
       | nil=>simp only [DD]; cases iP (lk bl none) u <;> rfl
       | cons w us=>simp only [DD]; cases toD (lk bl none) (.tup (u :: w :: us)) <;> rfl
    ·rfl
   | _=>rfl
 | _=>rfl
theorem aQT (res:List jW) (t:Nat):aPH res t .normal ⟨fr,bl⟩ = iK fr t fun v=>WQ v fun id ver=>bC bl id fun b=>YV ver b fun e s rows=>(J0 fr bl res MS).bind (N7 e s rows):=aDQ res t
theorem aRa (res:List jW) (t:Nat):aPH res t .ret ⟨fr,bl⟩ = iK fr t fun v=>WQ v fun id ver=>bC bl id fun b=>YV ver b fun e s rows=>(J0 fr bl res MS).bind (N7 e s rows):=aDQ res t
theorem aQp (res:List jW) (t i:Nat) (s:St):aPH res t (.exit i) s = none:=rfl
theorem aN5:MS [] = some (.tup []):=rfl
theorem SG {T:vZ} {f np nt t:Nat} {res:List jW} {body:aH} {fs:Bool} (hf:T f = some (.code ⟨np,nt,res,body,fs,true⟩)) (ds:List D) (hl:ds.length = np) (hlt:jB 0 ds = some t) (hnd:AQ t body = true):Vm.call T f ds = bU T body (A2 t ds) (aPH res t):=by
 rw [aG6 hf ds hl hlt rfl hnd]
 unfold bU
 cases Vm.ev T body (A2 t ds) with
 | none=>rfl
 | some q =>
  obtain ⟨e,s⟩:=q
  cases e <;> rfl
end
section
variable {β:Type} {T:vZ}
end
section
variable {β:Type} {T:vZ} {fr:List (Nat × V)} {bl:List (Nat × Option aJ)}
def A7 (fr:List (Nat × V)):List Nat->(List V->Option β)->Option β
 | [],k=>k []
 | t :: l,k=>iK fr t fun v=>A7 fr l fun vs=>k (v :: vs)
theorem OB (l:List Nat) (k:List V->Option β):A7 fr l k = k (l.map (lk fr .any)):=by
 induction l generalizing k with
 | nil=>rfl
 | cons x l ih=>simp only [A7,iK,ih,List.map_cons]
theorem aBk (k:List V->Option β):A7 fr [] k = k []:=rfl
theorem XM (t:Nat) (l:List Nat) (k:List V->Option β):A7 fr (t :: l) k = iK fr t fun v=>A7 fr l fun vs=>k (v :: vs):=rfl
def aTv (args:List bL) (id:Nat) (slots:List Nat) (fr:List (Nat × V)) (bl:List (Nat × Option aJ)) (k:List (Nat × V)->List (Nat × Option aJ)->Option β):Option β :=
 bC bl id fun b=>fU b (A7 fr slots fun cs=>GF fr args fun vs=>k (mZ 0 vs) ((id,some (.outer cs)) :: bl))
def inK (args:List bL) (id:Nat) (slots:List Nat) (s:St) (k:List (Nat × V)->List (Nat × Option aJ)->Option β):Option β:=aTv args id slots s.fr s.bl k
theorem aQx (args:List bL) (id:Nat) (slots:List Nat) (k:List (Nat × V)->List (Nat × Option aJ)->Option β):inK args id slots ⟨fr,bl⟩ k = bC bl id fun b=>fU b (A7 fr slots fun cs=>GF fr args fun vs=>k (mZ 0 vs) ((id,some (.outer cs)) :: bl)):=rfl
theorem aER (i:Nat):mZ i [] = []:=rfl
theorem aAZ (i:Nat) (v:V) (l:List V):mZ i (v :: l) = (i,v) :: mZ (i + 1) l:=rfl
theorem aNI (args:List bL) (id:Nat) (slots:List Nat) (k:St->Option β):(TZ args id slots ⟨fr,bl⟩).bind k = inK args id slots ⟨fr,bl⟩ fun fr' bl'=>k ⟨fr',bl'⟩:=by
 unfold TZ inK aTv bC fU
 rw [NQ]
 cases hb:lk bl none id with
 | some b=>rfl
 | none =>
  simp only [Option.isNone_none,if_true,Option.bind_some,OB,M3]
  rfl
def PR (fr:List (Nat × V)) (bl:List (Nat × Option aJ)):List jW->(List V->Option β)->Option β
 | [],k=>k []
 | .tmp t :: r,k=>iK fr t fun v=>PR fr bl r fun l=>k (v :: l)
 | .cell t size isAgg :: r,k=>iK fr t fun p=>yJ size isAgg p bl fun v=>PR fr bl r fun l=>k (v :: l)
theorem aPm (res:List jW):∀ (k:List V->Option β),PR fr bl res k = (aM (s9 ⟨fr,bl⟩) res).bind k:=by
 induction res with
 | nil=>intro k; rfl
 | cons r res ih =>
  intro k
  cases r with
  | tmp t =>
   simp only [PR,iK,ih,aM,s9,CY]
   cases aM (s9 ⟨fr,bl⟩) res <;> rfl
  | cell t size isAgg =>
   simp only [PR,iK,R5,ih,aM,s9,HZ,CY,DD]
   cases MR size isAgg (lk fr .any t) (lk bl none) with
   | none=>rfl
   | some q =>
    obtain ⟨v,wr⟩:=q
    simp only [Option.bind_some]
    cases aM (s9 ⟨fr,bl⟩) res <;> rfl
theorem aKU (k:List V->Option β):PR fr bl [] k = k []:=rfl
theorem aQ9 (t:Nat) (r:List jW) (k:List V->Option β):PR fr bl (.tmp t :: r) k = iK fr t fun v=>PR fr bl r fun l=>k (v :: l):=rfl
theorem aQ8 (t size:Nat) (isAgg:Bool) (r:List jW) (k:List V->Option β):PR fr bl (.cell t size isAgg :: r) k = iK fr t fun p=>yJ size isAgg p bl fun v=>PR fr bl r fun l=>k (v :: l):=rfl
def TJ (dst:Option Nat) (slots:List Nat) (cs vs:List V) (k:List (Nat × V)->Option β):Option β :=
 match vs with
 | [v]=>k (N9 dst v ++ slots.zip cs)
 | vs=>if vs.all V.noTup = true then k (N9 dst (.tup vs) ++ slots.zip cs) else none
theorem aFt (dst:Option Nat) (slots:List Nat) (cs:List V) (v:V) (k:List (Nat × V)->Option β):TJ dst slots cs [v] k = k (N9 dst v ++ slots.zip cs):=rfl
theorem aGq (dst:Option Nat) (slots:List Nat) (cs:List V) (k:List (Nat × V)->Option β):TJ dst slots cs [] k = k (N9 dst (.tup []) ++ slots.zip cs):=rfl
theorem SN (dst:Option Nat) (slots:List Nat) (cs:List V) (v u:V) (l:List V) (k:List (Nat × V)->Option β):TJ dst slots cs (v :: u :: l) k = if (v :: u :: l).all V.noTup = true then k (N9 dst (.tup (v :: u :: l)) ++ slots.zip cs) else none:=rfl
theorem aFH (d:Nat) (v:V) (l:List (Nat × V)):N9 (some d) v ++ l = (d,v) :: l:=rfl
theorem aEz (v:V) (l:List (Nat × V)):N9 none v ++ l = l:=rfl
theorem aJx:([]:List Nat).zip ([]:List V) = []:=rfl
theorem aGZ (t:Nat) (v:V) (l:List Nat) (r:List V):(t :: l).zip (v :: r) = (t,v) :: l.zip r:=rfl
def GV (b:Option aJ) (k:List V->Option β):Option β:=match b with
 | some (.outer cs)=>k cs
 | _=>none
theorem aKM (cs:List V) (k:List V->Option β):GV (some (.outer cs)) k = k cs:=rfl
def aIT (dst:Option Nat) (res:List jW) (id:Nat) (slots:List Nat) (fr:List (Nat × V)) (bl:List (Nat × Option aJ)) (k:List (Nat × V)->List (Nat × Option aJ)->Option β):Option β :=
 bC bl id fun b=>GV b fun cs=>PR fr bl res fun vs=>TJ dst slots cs vs fun fr'=>k fr' ((id,none) :: bl)
theorem aPJ (dst:Option Nat) (res:List jW) (id:Nat) (slots:List Nat) (k:List (Nat × V)->List (Nat × Option aJ)->Option β):aIT dst res id slots fr bl k = bC bl id fun b=>GV b fun cs=>PR fr bl res fun vs=>TJ dst slots cs vs fun fr'=>k fr' ((id,none) :: bl):=rfl
theorem aAg (dst:Option Nat) (res:List jW) (id:Nat) (slots:List Nat) (k:St->Option β):(lE dst res id slots ⟨fr,bl⟩).bind k = aIT dst res id slots fr bl fun fr' bl'=>k ⟨fr',bl'⟩:=by
 unfold lE aIT bC
 rw [NQ]
 cases hb:lk bl none id with
 | none=>cases aM (s9 ⟨fr,bl⟩) res <;> rfl
 | some b =>
  cases b with
  | outer cs =>
   simp only [GV,aPm]
   cases aM (s9 ⟨fr,bl⟩) res with
   | none=>rfl
   | some vs =>
    simp only [Option.bind_some]
    cases vs with
    | nil=>rfl
    | cons v vs=>cases vs with
     | nil=>rfl
     | cons u vs =>
      rw [SN]
      show (if (v :: u :: vs).all V.noTup = true then some _ else none).bind k = _
      split <;> rfl
  | _=>cases aM (s9 ⟨fr,bl⟩) res <;> rfl
def QF (dst:Option Nat) (res:List jW) (id:Nat) (slots:List Nat) (k:Ex->St->Option β):Ex->St->Option β
 | .normal,s=>(lE dst res id slots s).bind fun s4=>k .normal s4
 | .ret,s=>(lE dst res id slots s).bind fun s4=>k .normal s4
 | .exit _,_=>none
theorem aHN (dst:Option Nat) (res:List jW) (id:Nat) (slots:List Nat) (k:Ex->St->Option β):QF dst res id slots k .normal ⟨fr,bl⟩ = aIT dst res id slots fr bl fun fr' bl'=>k .normal ⟨fr',bl'⟩:=aAg dst res id slots _
theorem aKq (dst:Option Nat) (res:List jW) (id:Nat) (slots:List Nat) (k:Ex->St->Option β):QF dst res id slots k .ret ⟨fr,bl⟩ = aIT dst res id slots fr bl fun fr' bl'=>k .normal ⟨fr',bl'⟩:=aAg dst res id slots _
theorem aMk {k:Ex->St->Option β} (ops:List aR) (args:List bL) (dst:Option Nat) (f:Nat) (body:aH) (res:List jW) (id:Nat) (slots:List Nat) :
  bU T (.inl ops args dst f body res id slots) ⟨fr,bl⟩ k = sZ T ops ⟨fr,bl⟩ fun s1=>inK args id slots s1 fun fr' bl'=>bU T body ⟨fr',bl'⟩ (QF dst res id slots k):=by
 rw [aPa]
 congr 1
 funext s1
 refine Eq.trans ?_ (aNI (fr:=s1.fr) (bl:=s1.bl) args id slots fun s=>bU T body s (QF dst res id slots k))
 congr 1
 funext s2
 congr 1
 funext ex s3
 cases ex <;> rfl
def KT (keep:List Nat) (bl:List (Nat × Option aJ)):List V->(List V->Option β)->Option β
 | [],k=>k []
 | v :: cs,k=>pE keep bl v fun v'=>KT keep bl cs fun l=>k (v' :: l)
theorem aGR (keep:List Nat) (cs:List V):∀ (k:List V->Option β),KT keep bl cs k = k (cs.map (GE keep (lk bl none))):=by
 induction cs with
 | nil=>intro k; rfl
 | cons v cs ih=>intro k; simp only [KT,pE,ih,List.map_cons]
theorem aAY (keep:List Nat) (k:List V->Option β):KT keep bl [] k = k []:=rfl
theorem XZ (keep:List Nat) (v:V) (cs:List V) (k:List V->Option β):KT keep bl (v :: cs) k = pE keep bl v fun v'=>KT keep bl cs fun l=>k (v' :: l):=rfl
theorem V4 (keep:List Nat) (cs:List V) (k:Option aJ->Option β):xX keep bl (some (.outer cs)) k = KT keep bl cs fun l=>k (some (.outer l)):=by rw [aGR]; rfl
end
section
variable {β:Type} {T:vZ} {d:Nat} {fr:List (Nat × V)} {bl:List (Nat × Option aJ)} {k:V->Option β} {kw:V->List (Nat × Option aJ)->Option β}
noncomputable def wM (T:vZ) (d:Nat) (bl:List (Nat × Option aJ)) (f:Nat) (ds:List D) (k:V->Option β) (kw:V->List (Nat × Option aJ)->Option β):Option β:=match call T f ds with
 | some (.own x es rs)=>if JB x rs = true then FN (oG d (lk bl none) [] (.own x es rs)) k kw else none
 | _=>none
theorem aGa (f:Nat) (args:List bL):rI T d (.calln f args) fr bl k kw = OI fr bl args fun ds _=>wM T d bl f ds k kw:=by
 rw [iY,XR]
 simp only [cE]
 cases aM (fun x=>iP (lk bl none) (bJ (lk fr .any) x)) args with
 | none=>rfl
 | some ds =>
  simp only [Option.bind_some,wM]
  cases call T f ds with
  | none=>rfl
  | some y =>
   cases y with
   | own x es rs=>simp only; split <;> rfl
   | _=>rfl
theorem aGj (f:Nat) (args:List bL) (k:List Nat->Option β):GK d (.calln f args) fr bl k = DG fr bl args k:=by
 rw [I0]; rfl
theorem nS {x:D} {rs:List (List (List D))} (h1:aDP x = true) (h2:rs.all oM = true):JB x rs = true:=by simp only [JB,h1,h2,Bool.and_self]
theorem uL {r:List (List D)} {rs:List (List (List D))} (h1:oM r = true) (h2:rs.all oM = true):(r :: rs).all oM = true:=by simp only [List.all_cons,h1,h2,Bool.and_self]
theorem qW {α:Type} {f:Nat} {ds:List D} {o:Option α} {y:α->D} {p:Nat × Nat} {es:List (Nat × Nat)} {r:α->List (List D)} {rs:α->List (List (List D))} (h:call T f ds = o.map fun x=>.own (y x) (p :: es) (r x :: rs x)) (hn:∀ x,JB (y x) (r x :: rs x) = true) :
  wM T d bl f ds k kw = o.bind fun x=>ZP bl (fH d 0 (p :: es) (r x :: rs x)) (kw (thaw d (y x)) (fH d 0 (p :: es) (r x :: rs x))):=by
 unfold wM
 rw [h]
 cases o with
 | none=>rfl
 | some x =>
  simp only [Option.map_some,Option.bind_some,oG,RQ,hn x,if_true,List.append_nil]
  split
  ·obtain ⟨e,s⟩:=p; rfl
  ·rfl
end
end Vm
end Go.Proofs.Ytgjcnbgfaimepaa
namespace Go.Proofs.Ytgjcnbgfaimepaa
namespace Vm
open Go.RowKit
section
variable {β:Type} {T:vZ} {d:Nat} {fr:List (Nat × V)} {bl:List (Nat × Option aJ)} {k:V->Option β} {kw:V->List (Nat × Option aJ)->Option β}
def TR (b:Option aJ) (x:Option β):Option β:=match b with
 | some (.box _)=>x
 | some (.fbox _)=>x
 | _=>none
theorem aEB (cs:List V) (x:Option β):TR (some (.box cs)) x = x:=rfl
theorem aDm (cs:List D) (x:Option β):TR (some (.fbox cs)) x = x:=rfl
def aRA:Option aJ->Bool
 | some (.box _)=>true
 | some (.fbox _)=>true
 | _=>false
theorem aJy (b:Option aJ) (x:Option β):TR b x = if aRA b = true then x else none:=by
 cases b with
 | none=>rfl
 | some b=>cases b <;> rfl
def aIy (v:V) (bl:List (Nat × Option aJ)) (k:V->Option β):Option β:=match v with
 | .ptr id off=>bC bl id fun b=>TR b (k (.ptr id off))
 | _=>none
theorem aJ2 (id off:Nat):aIy (.ptr id off) bl k = bC bl id fun b=>TR b (k (.ptr id off)):=rfl
def KL (fr:List (Nat × V)) (bl:List (Nat × Option aJ)):List bL->(List V->Option β)->Option β
 | [],k=>k []
 | x :: l,k=>bW fr x fun v=>aIy v bl fun u=>KL fr bl l fun us=>k (u :: us)
theorem aA4 (k:List V->Option β):KL fr bl [] k = k []:=rfl
theorem OO (x:bL) (l:List bL) (k:List V->Option β):KL fr bl (x :: l) k = bW fr x fun v=>aIy v bl fun u=>KL fr bl l fun us=>k (u :: us):=rfl
theorem aMJ (v:V):aIy v bl k = if M7 (lk bl none) v = true then k v else none:=by
 cases v with
 | ptr id off =>
  show TR (lk bl none id) (k (.ptr id off)) = if M7 (lk bl none) (.ptr id off) = true then _ else _
  have:M7 (lk bl none) (.ptr id off) = aRA (lk bl none id):=by
   show (match lk bl none id with | some (.box _)=>true | some (.fbox _)=>true | _=>false) = aRA (lk bl none id)
   cases lk bl none id with
   | none=>rfl
   | some b=>cases b <;> rfl
  rw [this]
  exact aJy _ _
 | _=>rfl
theorem aEF (l:List bL):∀ (k:List V->Option β),KL fr bl l k = if (l.map (bJ (lk fr .any))).all (M7 (lk bl none)) = true then k (l.map (bJ (lk fr .any))) else none:=by
 induction l with
 | nil=>intro k; rfl
 | cons x l ih =>
  intro k
  rw [OO]
  unfold bW
  show aIy (bJ (lk fr .any) x) bl (fun u=>KL fr bl l fun us=>k (u :: us)) = _
  rw [aMJ,List.map_cons,List.all_cons]
  cases M7 (lk bl none) (bJ (lk fr .any) x) with
  | false=>rfl
  | true =>
   rw [if_pos rfl,ih,Bool.true_and]
theorem aFU (f:Nat) (caps:List bL):rI T d (.mkfnv f caps) fr bl k kw = KL fr bl caps fun vs=>k (.fn f vs):=by
 rw [aEF]
 unfold rI
 simp only [cE]
 split
 ·rename_i h
  split at h
  ·cases h
  ·rename_i hc; rw [if_neg hc]
 ·rename_i v h
  split at h
  ·rename_i hc
   cases h
   rw [if_pos hc]
  ·cases h
 ·rename_i v p wr h
  split at h
  ·cases h
  ·cases h
theorem aGf (f:Nat) (vs:List V) (k:List V->Option β):u3 (.fn f vs) k = k [.fn f vs]:=rfl
def aC6 (keep:List Nat) (id:Nat) (b:Option aJ) (x y:Option β):Option β:=match b with
 | some (.box _)=>fB keep id x y
 | _=>y
theorem aJQ (keep:List Nat) (id:Nat) (cs:List V) (x y:Option β):aC6 keep id (some (.box cs)) x y = fB keep id x y:=rfl
theorem aFm (keep:List Nat) (id:Nat) (cs:List D) (x y:Option β):aC6 keep id (some (.fbox cs)) x y = y:=rfl
theorem aHu (keep:List Nat) (id:Nat) (x y:Option β):aC6 keep id none x y = y:=rfl
def aPw (keep:List Nat) (id:Nat):Option aJ->Bool
 | some (.box _)=>keep.contains id
 | _=>false
theorem aOC (keep:List Nat) (id:Nat) (b:Option aJ) (x y:Option β):aC6 keep id b x y = if aPw keep id b = true then x else y:=by
 cases b with
 | none=>rfl
 | some b=>cases b <;> rfl
def fnK (keep:List Nat) (bl:List (Nat × Option aJ)):List V->Option β->Option β->Option β
 | [],x,_=>x
 | .ptr id _ :: l,x,y=>bC bl id fun b=>aC6 keep id b (fnK keep bl l x y) y
 | _ :: _,_,y=>y
theorem aL3 (keep:List Nat) (x y:Option β):fnK keep bl [] x y = x:=rfl
theorem aEj (keep:List Nat) (id off:Nat) (l:List V) (x y:Option β):fnK keep bl (.ptr id off :: l) x y = bC bl id fun b=>aC6 keep id b (fnK keep bl l x y) y:=rfl
theorem aLS (keep:List Nat) (x y:Option β):∀ l:List V,fnK keep bl l x y = if l.all (aDC keep (lk bl none)) = true then x else y
 | []=>rfl
 | v :: l=>by
  rw [List.all_cons]
  cases v with
  | ptr id off =>
   rw [aEj]
   show aC6 keep id (lk bl none id) (fnK keep bl l x y) y = _
   have:aDC keep (lk bl none) (.ptr id off) = aPw keep id (lk bl none id):=by
    show (match lk bl none id with | some (.box _)=>keep.contains id | _=>false) = aPw keep id (lk bl none id)
    cases lk bl none id with
    | none=>rfl
    | some b=>cases b <;> rfl
   rw [aOC,aLS keep x y l,this]
   cases aPw keep id (lk bl none id) <;> rfl
  | _=>rfl
theorem aLr (keep:List Nat) (f:Nat) (vs:List V):pE keep bl (.fn f vs) k = fnK keep bl vs (k (.fn f vs)) (k .any):=by
 rw [aLS]
 unfold pE
 simp only [GE,OH,sO]
 split <;> rfl
theorem aFg (keep:List Nat) (f:Nat) (vs cs:List V) (k:List V->Option β):rE keep bl (.fn f vs :: cs) k = pE keep bl (.fn f vs) fun v=>rE keep bl cs fun l=>k (v :: l):=by simp only [sI]; rfl
def RK (f nc:Nat) (v:V) (k:List V->Option β):Option β:=(FO f nc v).bind k
theorem aGL (f nc g:Nat) (vs:List V) (k:List V->Option β):RK f nc (.fn g vs) k = if g = f ∧ vs.length = nc then k vs else none:=by
 unfold RK FO
 simp only
 split <;> rfl
def aSP (x:bL) (nc f:Nat) (args:List bL) (id:Nat) (slots:List Nat) (fr:List (Nat × V)) (bl:List (Nat × Option aJ)) (k:List (Nat × V)->List (Nat × Option aJ)->Option β):Option β :=
 bW fr x fun v=>RK f nc v fun caps=>bC bl id fun b=>fU b (A7 fr slots fun cs=>GF fr args fun vs=>k (mZ 0 (vs ++ caps)) ((id,some (.outer cs)) :: bl))
def aSn (x:bL) (nc f:Nat) (args:List bL) (id:Nat) (slots:List Nat) (s:St) (k:List (Nat × V)->List (Nat × Option aJ)->Option β):Option β:=aSP x nc f args id slots s.fr s.bl k
theorem aDM (x:bL) (nc f:Nat) (args:List bL) (id:Nat) (slots:List Nat) (k:List (Nat × V)->List (Nat × Option aJ)->Option β):aSn x nc f args id slots ⟨fr,bl⟩ k = bW fr x fun v=>RK f nc v fun caps=>bC bl id fun b=>fU b (A7 fr slots fun cs=>GF fr args fun vs=>k (mZ 0 (vs ++ caps)) ((id,some (.outer cs)) :: bl)):=rfl
theorem aJU {k:Ex->St->Option β} (ops:List aR) (x:bL) (nc:Nat) (args:List bL) (dst:Option Nat) (f:Nat) (body:aH) (res:List jW) (id:Nat) (slots:List Nat) (s:St) :
  bU T (.inlv ops x nc args dst f body res id slots) s k = sZ T ops s fun s1=>(FO f nc (bJ s1.get x)).bind fun caps=>(DI (args.map (bJ s1.get) ++ caps) id slots s1).bind fun s2=>bU T body s2 fun ex s3=>match ex with
   | .exit _=>none
   | _=>(lE dst res id slots s3).bind fun s4=>k .normal s4:=by
 unfold bU sZ
 rw [aNc]
 cases iJ (call T) ops s with
 | none=>rfl
 | some s1 =>
  simp only [Option.bind_some]
  cases FO f nc (bJ s1.get x) with
  | none=>rfl
  | some caps =>
   simp only [Option.bind_some]
   cases DI (args.map (bJ s1.get) ++ caps) id slots s1 with
   | none=>rfl
   | some s2 =>
    simp only [Option.bind_some]
    cases ev T body s2 with
    | none=>rfl
    | some q =>
     obtain ⟨e,s3⟩:=q
     cases e with
     | normal=>simp only [Option.bind_some]; cases lE dst res id slots s3 <;> rfl
     | exit i=>rfl
     | ret=>simp only [Option.bind_some]; cases lE dst res id slots s3 <;> rfl
theorem aLA {k:Ex->St->Option β} (ops:List aR) (x:bL) (nc:Nat) (args:List bL) (dst:Option Nat) (f:Nat) (body:aH) (res:List jW) (id:Nat) (slots:List Nat) :
  bU T (.inlv ops x nc args dst f body res id slots) ⟨fr,bl⟩ k = sZ T ops ⟨fr,bl⟩ fun s1=>aSn x nc f args id slots s1 fun fr' bl'=>bU T body ⟨fr',bl'⟩ (QF dst res id slots k):=by
 rw [aJU]
 congr 1
 funext s1
 obtain ⟨fr1,bl1⟩:=s1
 rw [aDM]
 unfold bW RK
 show (FO f nc (bJ (lk fr1 .any) x)).bind _ = (FO f nc (bJ (lk fr1 .any) x)).bind _
 congr 1
 funext caps
 unfold DI bC fU
 rw [NQ]
 cases hb:lk bl1 none id with
 | some b=>rfl
 | none =>
  simp only [Option.isNone_none,if_true,Option.bind_some,OB,M3]
  congr 1
  funext ex s3
  cases ex <;> rfl
theorem aNo (f:Nat) (vs:List V) (k:List Nat->Option β):IF (.fn f vs) k = k []:=rfl
theorem aJ6 (f:Nat) (vs:List V) (k:List Nat->Option β):zO bl (.fn f vs) k = k []:=rfl
theorem aFk (f:Nat) (vs cs:List V) (k:List Nat->Option β):rX bl (.fn f vs :: cs) k = rX bl cs k:=by simp only [vQ]; rfl
theorem aHw (f:Nat) (vs cs:List V) (k:List Nat->Option β):rU (.fn f vs :: cs) k = rU cs k:=by simp only [vF]; rfl
end
end Vm
end Go.Proofs.Ytgjcnbgfaimepaa
namespace Go.Proofs.Ytgjcnbgfaimepaa
namespace Vm
open Go.RowKit Vm
def J8 (rows:List (List D)):Bool:=rows.all fun row=>row.all D.atom
def NW (E size bytes:Nat):List D->Option D
 | [.sl rows]=>if sized size rows = true ∧ J8 rows = true ∧ rows.length * bytes <= 140737488355328 then some (.own (.ref 0) [(E,size)] [rows]) else none
 | _=>none
theorem XA {α:Type} (c:α->List D) (xs:List α) (h:∀ x,(c x).all D.atom = true):J8 (cM c xs) = true:=by
 unfold J8 cM
 rw [List.all_eq_true]
 intro row hr
 obtain ⟨x,_,rfl⟩:=List.mem_map.1 hr
 exact h x
end Vm
end Go.Proofs.Ytgjcnbgfaimepaa
