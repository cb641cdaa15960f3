/- The small machine, read from the front: slices that are laid out, calls, masks, answers. The small machine, read from the front: regions whose order is drawn. The small machine, read from the front: slices that are lent, cut, cleared. The small machine, read from the front: function values that hold boxes. -/
import Derived.Test.YtjjcaapdaldedaaVmE
set_option linter.unusedVariables false
set_option linter.unusedSimpArgs false
namespace Go.Proofs.Ytjjcaapdaldedaa
theorem zA.{u} {α:Type u} {a:α} {l:List α}:(a::l).length = l.length + 1:=rfl
theorem zB.{u} {α:Type u}:([]:List α).length = 0:=rfl
theorem zC:(!true) = false:=rfl
theorem zD:(!false) = true:=rfl
theorem zE.{u} {α:Type u} {n:Nat} {a:α}:List.replicate (n + 1) a = a::List.replicate n a:=rfl
theorem zF.{u} {α:Type u} {a:α}:List.replicate 0 a = []:=rfl
theorem zG.{u,v} {α:Type u} {β:Type v} (a:α) (f:α->Option β):(some a).bind f = f a:=rfl
theorem zH.{u,v} {α:Type u} {β:Type v} (a:α) (f:α->β):(some a).map f = some (f a):=rfl
theorem zI.{u,v} {α:Type u} {β:Type v} (f:α->β):(none:Option α).map f = none:=rfl
theorem zJ.{u,v,w} {α:Type u} {β:Type v} {γ:Sort w} (f:α->γ) (g:β->γ) (x:α):Sum.elim f g (Sum.inl x) = f x:=rfl
theorem zK.{u,v,w} {α:Type u} {β:Type v} {γ:Sort w} (f:α->γ) (g:β->γ) (x:β):Sum.elim f g (Sum.inr x) = g x:=rfl
theorem zL.{u,v,w} {α:Type u} {β:Type v} {γ:Type w} (x:Option α) (f:α->Option β) (g:β->Option γ):(x.bind f).bind g = x.bind fun y=>(f y).bind g:=Option.bind_assoc x f g
theorem zM.{u} {α:Type u} [BEq α] [ReflBEq α] (a:α):(a == a) = true:=beq_self_eq_true a
theorem zN:(¬False) = True:=not_false_eq_true
namespace Vm
open Go.RowKit
section
variable {β:Type} {T:CO} {d:Nat} {fr:List (Nat × V)} {bl:List (Nat × Option aI)} {k:V->Option β} {kw:V->List (Nat × Option aI)->Option β}
def D0 (bl:List (Nat × Option aI)):List V->(List D->List (Nat × Option aI)->Option β)->Option β
 | [],k=>k [] []
 | v :: cs,k=>(lZ (lk bl none) v).bind fun x=>D0 bl cs fun ds f=>k (x :: ds) (E2 (lk bl none) v ++ f)
theorem aBs (cs:List V) (k:List D->List (Nat × Option aI)->Option β):D0 bl cs k = (aP (lZ (lk bl none)) cs).bind fun ds=>k ds (cs.flatMap (E2 (lk bl none))):=by
 induction cs generalizing k with
 | nil=>rfl
 | cons v cs ih =>
  simp only [D0,aP,ih,List.flatMap_cons]
  cases lZ (lk bl none) v with
  | none=>rfl
  | some x=>cases aP (lZ (lk bl none)) cs <;> rfl
def d1K (v:V) (bl:List (Nat × Option aI)) (k:D->List (Nat × Option aI)->Option β):Option β:=(lZ (lk bl none) v).bind fun x=>k x (E2 (lk bl none) v)
theorem aQV (x:D) (k:D->List (Nat × Option aI)->Option β):d1K (.d x) bl k = k x []:=rfl
def d1B (id ver:Nat) (b:Option aI) (k:D->List (Nat × Option aI)->Option β):Option β:=match b with
 | some (.rows v _ _ rows)=>if ver = v then k (.sl rows) [(id,some (.froz v rows))] else none
 | some (.froz v rows)=>if ver = v then k (.sl rows) [] else none
 | _=>none
theorem aNl (id ver:Nat) (k:D->List (Nat × Option aI)->Option β):d1K (.own id ver) bl k = cY bl id fun b=>d1B id ver b k:=by
 unfold d1K cY d1B
 simp only [lZ,E2,t9,OL]
 generalize lk bl none id = b
 cases b with
 | none=>rfl
 | some b=>cases b with
  | rows v e s rows=>simp only; by_cases h:ver = v <;> simp [h]
  | froz v rows=>simp only; by_cases h:ver = v <;> simp [h]
  | _=>rfl
theorem aJf (id v e s:Nat) (rows:List (List D)) (k:D->List (Nat × Option aI)->Option β):d1B id v (some (.rows v e s rows)) k = k (.sl rows) [(id,some (.froz v rows))]:=if_pos rfl
def CT (bl:List (Nat × Option aI)):List V->(List D->List (Nat × Option aI)->Option β)->Option β
 | [],k=>k [] []
 | v :: cs,k=>(t9 (lk bl none) v).bind fun x=>CT bl cs fun ds f=>k (x :: ds) (OL (lk bl none) v ++ f)
theorem aGi (cs:List V) (k:List D->List (Nat × Option aI)->Option β):CT bl cs k = (aP (t9 (lk bl none)) cs).bind fun ds=>k ds (cs.flatMap (OL (lk bl none))):=by
 induction cs generalizing k with
 | nil=>rfl
 | cons v cs ih =>
  simp only [CT,aP,ih,List.flatMap_cons]
  cases t9 (lk bl none) v with
  | none=>rfl
  | some x=>cases aP (t9 (lk bl none)) cs <;> rfl
theorem aDx (k:List D->List (Nat × Option aI)->Option β):CT bl [] k = k [] []:=rfl
theorem aH5 (x:D) (cs:List V) (k:List D->List (Nat × Option aI)->Option β):CT bl (.d x :: cs) k = CT bl cs fun ds f=>k (x :: ds) f:=rfl
theorem W9 (ds:List D) (k:List D->List (Nat × Option aI)->Option β):CT bl (aK ds) k = k ds []:=by
 have:∀ (ds:List D) (k:List D->List (Nat × Option aI)->Option β),CT bl (aK ds) k = k ds []:=by
  intro ds
  induction ds with
  | nil=>intro k; rfl
  | cons x ds ih=>intro k; show CT bl (aK ds) _ = _; rw [ih]; rfl
 exact this ds k
def d1P (id off:Nat) (b:Option aI) (bl:List (Nat × Option aI)) (k:D->List (Nat × Option aI)->Option β):Option β:=match b with
 | some (.box cs)=>CT bl cs fun ds f=>k (.ptr ds off) ((id,some (.fbox ds)) :: f)
 | some (.fbox ds)=>k (.ptr ds off) []
 | _=>none
theorem aMN (id off:Nat) (k:D->List (Nat × Option aI)->Option β):d1K (.ptr id off) bl k = cY bl id fun b=>d1P id off b bl k:=by
 unfold d1K cY d1P
 simp only [lZ,E2]
 cases lk bl none id with
 | none=>rfl
 | some b=>cases b with
  | box cs =>
   simp only [aGi]
   cases aP (t9 (lk bl none)) cs <;> rfl
  | _=>rfl
theorem aK5 (id off:Nat) (c:V) (cs:List V) (k:D->List (Nat × Option aI)->Option β):d1P id off (some (.box (c :: cs))) bl k = CT bl (c :: cs) fun ds f=>k (.ptr ds off) ((id,some (.fbox ds)) :: f):=rfl
theorem aDC (id off:Nat) (ds:List D) (k:D->List (Nat × Option aI)->Option β):d1P id off (some (.box (aK ds))) bl k = k (.ptr ds off) [(id,some (.fbox ds))]:=by
 show CT bl (aK ds) _ = _
 rw [W9]
theorem aFG (k:List D->List (Nat × Option aI)->Option β):D0 bl [] k = k [] []:=rfl
theorem aMD (x:D) (cs:List V) (k:List D->List (Nat × Option aI)->Option β):D0 bl (.d x :: cs) k = D0 bl cs fun ds f=>k (x :: ds) f:=rfl
theorem aNF (cs:List V) (k:List D->List (Nat × Option aI)->Option β):D0 bl (.nil :: cs) k = D0 bl cs fun ds f=>k (.sl [] :: ds) f:=rfl
theorem aGs (id ver:Nat) (cs:List V) (k:List D->List (Nat × Option aI)->Option β):D0 bl (.own id ver :: cs) k = d1K (.own id ver) bl fun x g=>D0 bl cs fun ds f=>k (x :: ds) (g ++ f):=rfl
theorem P8 (ds:List D) (k:List D->List (Nat × Option aI)->Option β):D0 bl (aK ds) k = k ds []:=by
 have:∀ (ds:List D) (k:List D->List (Nat × Option aI)->Option β),D0 bl (aK ds) k = k ds []:=by
  intro ds
  induction ds with
  | nil=>intro k; rfl
  | cons x ds ih=>intro k; show D0 bl (aK ds) _ = _; rw [ih]; rfl
 exact this ds k
def J7 (v:V) (bl:List (Nat × Option aI)) (k:D->List (Nat × Option aI)->Option β):Option β:=(lF (lk bl none) v).bind fun x=>k x (zZ (lk bl none) v)
theorem aOX (x:D) (k:D->List (Nat × Option aI)->Option β):J7 (.d x) bl k = k x []:=rfl
theorem aHZ (k:D->List (Nat × Option aI)->Option β):J7 .nil bl k = k (.sl []) []:=rfl
theorem aIR (id ver:Nat) (k:D->List (Nat × Option aI)->Option β):J7 (.own id ver) bl k = d1K (.own id ver) bl k:=rfl
theorem aAB (cs:List V) (k:D->List (Nat × Option aI)->Option β):J7 (.agg cs) bl k = D0 bl cs fun ds f=>k (.agg ds) f:=by
 rw [aBs]
 show ((aP (lZ (lk bl none)) cs).map D.agg).bind _ = _
 cases aP (lZ (lk bl none)) cs <;> rfl
theorem aGF (ds:List D) (k:D->List (Nat × Option aI)->Option β):J7 (fL ds) bl k = k (.agg ds) []:=by
 show J7 (.agg (aK ds)) bl k = _
 rw [aAB,P8]
theorem aOz (x:D) (k:List D->List (Nat × Option aI)->Option β):VI (.d x) bl k = k [x] []:=rfl
theorem aAC (cs:List V) (k:List D->List (Nat × Option aI)->Option β):VI (.agg cs) bl k = D0 bl cs k:=by
 rw [aBs]
 show (match aP (lZ (lk bl none)) cs with | some row=>k row (cs.flatMap (E2 (lk bl none))) | none=>none) = _
 cases aP (lZ (lk bl none)) cs <;> rfl
theorem aFI (ds:List D) (k:List D->List (Nat × Option aI)->Option β):VI (fL ds) bl k = k ds []:=by
 show VI (.agg (aK ds)) bl k = _
 rw [aAC,P8]
theorem aKl (id ver:Nat) (k:List D->List (Nat × Option aI)->Option β):VI (.own id ver) bl k = d1K (.own id ver) bl fun x f=>k [x] f:=by
 unfold VI d1K
 show (match aP (lZ (lk bl none)) [.own id ver] with | some row=>k row (E2 (lk bl none) (.own id ver)) | none=>none) = _
 simp only [aP]
 cases lZ (lk bl none) (.own id ver) <;> rfl
def aAZ (rs:List (List D)) (i:Nat) (row:List D) (k:List (List D)->Option β):Option β:=if i < rs.length then k (rs.set i row) else none
theorem aOg (r:List D) (rs:List (List D)) (row:List D) (k:List (List D)->Option β):aAZ (r :: rs) 0 row k = k (row :: rs):=by simp [aAZ]
theorem aOY (r:List D) (rs:List (List D)) (i:Nat) (row:List D) (k:List (List D)->Option β):aAZ (r :: rs) (i + 1) row k = aAZ rs i row fun l=>k (r :: l):=by
 unfold aAZ
 simp only [List.length_cons,List.set_cons_succ]
 by_cases h:i < rs.length
 ·rw [if_pos h,if_pos (by omega)]
 ·rw [if_neg h,if_neg (by omega)]
def bsF (fr:List (Nat × V)) (bl:List (Nat × Option aI)) (size:Nat) (rs:List (List D)):List (Nat × bS)->List (Nat × Option aI)->(List (List D)->List (Nat × Option aI)->Option β)->Option β
 | [],wr,k=>k rs wr
 | (i,x) :: r,wr,k=>cJ fr x fun v=>VI v bl fun row f=>uQ row size (aAZ rs i row fun rs'=>bsF fr bl size rs' r (wr ++ f) k)
theorem aMO (size:Nat) (rs:List (List D)) (wr:List (Nat × Option aI)) (k:List (List D)->List (Nat × Option aI)->Option β):bsF fr bl size rs [] wr k = k rs wr:=rfl
theorem aHu (size:Nat) (rs:List (List D)) (i:Nat) (x:bS) (r:List (Nat × bS)) (wr:List (Nat × Option aI)) (k:List (List D)->List (Nat × Option aI)->Option β):bsF fr bl size rs ((i,x) :: r) wr k = cJ fr x fun v=>VI v bl fun row f=>uQ row size (aAZ rs i row fun rs'=>bsF fr bl size rs' r (wr ++ f) k):=rfl
theorem aOw (size:Nat) (parts:List (Nat × bS)):∀ (rs:List (List D)) (wr:List (Nat × Option aI)) (k:List (List D)->List (Nat × Option aI)->Option β),bsF fr bl size rs parts wr k = (nT (lk bl none) size rs (parts.map fun p=>(p.1,bI (lk fr .any) p.2))).bind fun rs'=>k rs' (wr ++ parts.flatMap fun p=>zZ (lk bl none) (bI (lk fr .any) p.2)):=by
 induction parts with
 | nil=>intro rs wr k; simp [bsF,nT]
 | cons p r ih =>
  intro rs wr k
  obtain ⟨i,x⟩:=p
  simp only [bsF,cJ,VI,List.map_cons,nT,List.flatMap_cons]
  cases aP (lZ (lk bl none)) (bI (lk fr .any) x).cells with
  | none=>rfl
  | some row =>
   simp only [uQ,aAZ]
   by_cases h1:row.length = size
   ·by_cases h2:i < rs.length
    ·rw [if_pos h1,if_pos h2,if_pos ⟨h1,h2⟩,ih,List.append_assoc]
    ·rw [if_pos h1,if_neg h2,if_neg (fun q=>h2 q.2)]; rfl
   ·rw [if_neg h1,if_neg (fun q=>h1 q.1)]; rfl
theorem VP (e size n:Nat) (z:List D) (parts:List (Nat × bS)):AC T d (.buildSlice e size z n parts) fr bl k kw = cY bl d fun b=>lW b (bsF fr bl size (List.replicate n z) parts [] fun rows wr=>WQ e rows fun rows=>kw (.own d 0) ((d,some (.rows 0 e size rows)) :: wr)):=by
 rw [rA]
 unfold cY lW WQ
 simp only [b9,aOw,List.nil_append]
 cases lk bl none d with
 | some b=>rfl
 | none =>
  simp only
  have e1:(parts.map fun x=>match x with | (i,x)=>(i,bI (lk fr .any) x)) = parts.map fun p=>(p.1,bI (lk fr .any) p.2):=rfl
  have e2:(parts.flatMap fun x=>match x with | (_,x)=>zZ (lk bl none) (bI (lk fr .any) x)) = parts.flatMap fun p=>zZ (lk bl none) (bI (lk fr .any) p.2):=rfl
  rw [e1,e2]
  cases nT (lk bl none) size (List.replicate n z) (parts.map fun p=>(p.1,bI (lk fr .any) p.2)) <;> rfl
theorem XE {α:Type} (e size bytes:Nat) (z:List D) (c:α->List D) (x:α) (hz:z = c x) (l cp:bS):AC T d (.makeSlice e size bytes z l cp) fr bl k kw = cY bl d fun b=>lW b (cJ fr l fun a=>cJ fr cp fun b=>match a,b with
   | .d (.int _ n),.d (.int _ m)=>if 0 <= n ∧ n <= m ∧ (bytes:Int) * m <= 281474976710656 ∧ m <= 9223372036854775807 then kw (.own d 0) [(d,some (.rows 0 e size (cM c (List.replicate n.toNat x))))] else none
   | _,_=>none):=by
 subst hz
 rw [rA]
 unfold cY lW cJ
 simp only [b9,ZZ]
 generalize bI (lk fr .any) l = a
 generalize bI (lk fr .any) cp = b
 cases lk bl none d with
 | some b=>rfl
 | none =>
  simp only
  split
  ·rename_i n _ m
   simp only
   by_cases h:0 <= n ∧ n <= m ∧ (bytes:Int) * m <= 281474976710656 ∧ m <= 9223372036854775807
   ·rw [if_pos h,if_pos h]; rfl
   ·rw [if_neg h,if_neg h]; rfl
  ·rename_i h
   split
   ·rename_i n _ m
    exact absurd rfl (h _ _ _ _ rfl)
   ·rfl
def TD (fr:List (Nat × V)) (bl:List (Nat × Option aI)):List bS->(List D->List (Nat × Option aI)->Option β)->Option β
 | [],k=>k [] []
 | x :: l,k=>cJ fr x fun v=>J7 v bl fun y f=>TD fr bl l fun ds g=>k (y :: ds) (f ++ g)
theorem aE6 (k:List D->List (Nat × Option aI)->Option β):TD fr bl [] k = k [] []:=rfl
theorem aCN (x:bS) (l:List bS) (k:List D->List (Nat × Option aI)->Option β):TD fr bl (x :: l) k = cJ fr x fun v=>J7 v bl fun y f=>TD fr bl l fun ds g=>k (y :: ds) (f ++ g):=rfl
theorem aBf (l:List bS) (k:List D->List (Nat × Option aI)->Option β):TD fr bl l k = (aP (fun x=>lF (lk bl none) (bI (lk fr .any) x)) l).bind fun ds=>k ds (l.flatMap fun x=>zZ (lk bl none) (bI (lk fr .any) x)):=by
 induction l generalizing k with
 | nil=>rfl
 | cons x l ih =>
  simp only [TD,cJ,J7,aP,ih,List.flatMap_cons]
  cases lF (lk bl none) (bI (lk fr .any) x) with
  | none=>rfl
  | some y=>cases aP (fun x=>lF (lk bl none) (bI (lk fr .any) x)) l <;> rfl
def fzK (fz:List (Nat × Option aI)) (v:V) (k:V->Option β) (kw:V->List (Nat × Option aI)->Option β):Option β:=match fz with
 | []=>k v
 | p :: w=>kw v (p :: w)
theorem aNy (v:V):fzK [] v k kw = k v:=rfl
theorem aOe (l:List (Nat × Option aI)) (v:V):fzK ([] ++ l) v k kw = fzK l v k kw:=rfl
theorem aPc (p:Nat × Option aI) (w l:List (Nat × Option aI)) (v:V):fzK ((p :: w) ++ l) v k kw = kw v ((p :: w) ++ l):=rfl
noncomputable def LM (T:CO) (d:Nat) (bl:List (Nat × Option aI)) (f:Nat) (ds:List D) (fz:List (Nat × Option aI)) (k:V->Option β) (kw:V->List (Nat × Option aI)->Option β):Option β:=match call T f ds with
 | none=>none
 | some r=>P6 (tA d (lk bl none) fz r) k kw
theorem aIJ (f:Nat) (args:List bS):AC T d (.call f args) fr bl k kw = TD fr bl args fun ds fz=>LM T d bl f ds fz k kw:=by
 rw [rA,aBf]
 simp only [b9]
 cases aP (fun x=>lF (lk bl none) (bI (lk fr .any) x)) args with
 | none=>rfl
 | some ds =>
  simp only [Option.bind_some,LM]
  cases call T f ds <;> rfl
def D.calm:D->Bool
 | .own _ _ _=>false
 | _=>true
theorem aEo {x:D} (h:x.calm = true):∀ y es rs,x ≠ .own y es rs:=fun y es rs e=>by rw [e] at h; cases h
theorem aFz {x:D} (h:PL x = true):x.calm = true:=by cases x <;> first | rfl | cases h
theorem aBY {α:Type} {f:Nat} {ds:List D} {o:Option α} {enc:α->D} (h:call T f ds = o.map enc) (hf:∀ x,PL (enc x) = true) (fz:List (Nat × Option aI)):LM T d bl f ds fz k kw = o.bind fun x=>k (toV (enc x)):=by
 unfold LM
 rw [h]
 cases o with
 | none=>rfl
 | some x=>simp only [Option.map_some,Option.bind_some]; rw [I3 (aEo (aFz (hf x))),if_pos (hf x)]; rfl
theorem aDK {α:Type} {f:Nat} {ds:List D} {o:Option α} {enc:α->D} (h:call T f ds = o.map enc) (hf:∀ x,PL (enc x) = false) (hc:∀ x,(enc x).calm = true) (fz:List (Nat × Option aI)):LM T d bl f ds fz k kw = o.bind fun x=>fzK fz (toV (enc x)) k kw:=by
 unfold LM
 rw [h]
 cases o with
 | none=>rfl
 | some x=>simp only [Option.map_some,Option.bind_some]; rw [I3 (aEo (hc x)),if_neg (by rw [hf x]; decide)]; cases fz <;> rfl
def aD1 (bl:List (Nat × Option aI)):List (Nat × Option aI)->Option β->Option β
 | [],x=>x
 | (i,_) :: l,x=>cY bl i fun b=>lW b (aD1 bl l x)
theorem aA0 (bl:List (Nat × Option aI)) (x:Option β):∀ (l:List (Nat × Option aI)),aD1 bl l x = if QI (lk bl none) l = true then x else none
 | []=>rfl
 | (i,b) :: l=>by
  cases h:lk bl none i <;> simp [aD1,QI,cY,lW,aA0 bl x l,h]
def UL (fr:List (Nat × V)) (bl:List (Nat × Option aI)):List bS->(List D->List (Nat × Option aI)->Option β)->Option β
 | [],k=>k [] []
 | x :: l,k=>cJ fr x fun v=>d1K v bl fun y f=>UL fr bl l fun ds g=>k (y :: ds) (f ++ g)
theorem aF1 (k:List D->List (Nat × Option aI)->Option β):UL fr bl [] k = k [] []:=rfl
theorem aDu (x:bS) (l:List bS) (k:List D->List (Nat × Option aI)->Option β):UL fr bl (x :: l) k = cJ fr x fun v=>d1K v bl fun y f=>UL fr bl l fun ds g=>k (y :: ds) (f ++ g):=rfl
theorem aJV (l:List bS) (k:List D->List (Nat × Option aI)->Option β):UL fr bl l k = (aP (fun x=>lZ (lk bl none) (bI (lk fr .any) x)) l).bind fun ds=>k ds (l.flatMap fun x=>E2 (lk bl none) (bI (lk fr .any) x)):=by
 induction l generalizing k with
 | nil=>rfl
 | cons x l ih =>
  simp only [UL,cJ,d1K,aP,ih,List.flatMap_cons]
  cases lZ (lk bl none) (bI (lk fr .any) x) with
  | none=>rfl
  | some y=>cases aP (fun x=>lZ (lk bl none) (bI (lk fr .any) x)) l <;> rfl
theorem aG7 (f:Nat) (caps:List bS):AC T d (.mkfn f caps) fr bl k kw = UL fr bl caps fun ds fz=>fzK fz (.d (.fn f ds)) k kw:=by
 rw [rA,aJV]
 simp only [b9]
 cases aP (fun x=>lZ (lk bl none) (bI (lk fr .any) x)) caps with
 | none=>rfl
 | some ds =>
  simp only [Option.bind_some]
  cases caps.flatMap fun x=>E2 (lk bl none) (bI (lk fr .any) x) <;> rfl
def TF (fr:List (Nat × V)) (bl:List (Nat × Option aI)) (caps:List D):List bS->(List D->List (Nat × Option aI)->Option β)->Option β
 | [],k=>k caps []
 | x :: l,k=>cJ fr x fun v=>J7 v bl fun y f=>TF fr bl caps l fun ds g=>k (y :: ds) (f ++ g)
theorem aFC (caps:List D) (k:List D->List (Nat × Option aI)->Option β):TF fr bl caps [] k = k caps []:=rfl
theorem aDf (caps:List D) (x:bS) (l:List bS) (k:List D->List (Nat × Option aI)->Option β):TF fr bl caps (x :: l) k = cJ fr x fun v=>J7 v bl fun y f=>TF fr bl caps l fun ds g=>k (y :: ds) (f ++ g):=rfl
theorem aIh (caps:List D) (l:List bS) (k:List D->List (Nat × Option aI)->Option β):TF fr bl caps l k = (aP (fun x=>lF (lk bl none) (bI (lk fr .any) x)) l).bind fun ds=>k (ds ++ caps) (l.flatMap fun x=>zZ (lk bl none) (bI (lk fr .any) x)):=by
 induction l generalizing k with
 | nil=>rfl
 | cons x l ih =>
  simp only [TF,cJ,J7,aP,ih,List.flatMap_cons]
  cases lF (lk bl none) (bI (lk fr .any) x) with
  | none=>rfl
  | some y=>cases aP (fun x=>lF (lk bl none) (bI (lk fr .any) x)) l <;> rfl
noncomputable def aDG (T:CO) (d:Nat) (v:V) (args:List bS) (fr:List (Nat × V)) (bl:List (Nat × Option aI)) (k:V->Option β) (kw:V->List (Nat × Option aI)->Option β):Option β:=match v with
 | .d (.fn f caps)=>TF fr bl caps args fun ds fz=>LM T d bl f ds fz k kw
 | _=>none
theorem aJE (f:Nat) (caps:List D) (args:List bS):aDG T d (.d (.fn f caps)) args fr bl k kw = TF fr bl caps args fun ds fz=>LM T d bl f ds fz k kw:=rfl
theorem aGf (g:bS) (args:List bS):AC T d (.callv g args) fr bl k kw = cJ fr g fun v=>aDG T d v args fr bl k kw:=by
 rw [rA]
 unfold cJ
 simp only [b9]
 generalize bI (lk fr .any) g = v
 cases v with
 | d x=>cases x with
  | fn f caps =>
   simp only [aDG,aIh]
   cases aP (fun x=>lF (lk bl none) (bI (lk fr .any) x)) args with
   | none=>rfl
   | some ds =>
    simp only [Option.bind_some,LM]
    cases call T f (ds ++ caps) <;> rfl
  | _=>rfl
 | _=>rfl
def aOm (v:V) (i:Nat) (k:V->Option β):Option β:=match v with
 | .tup vs=>HQ vs i k
 | _=>none
theorem aAf (x:bS) (i:Nat):AC T d (.extract x i) fr bl k kw = cJ fr x fun v=>aOm v i k:=by
 unfold AC cJ
 simp only [b9]
 generalize bI (lk fr .any) x = v
 cases v with
 | tup vs=>simp only [aOm,QS]; cases vs[i]? <;> rfl
 | _=>rfl
theorem aPm (vs:List V) (i:Nat):aOm (.tup vs) i k = HQ vs i k:=rfl
def CK (m:BV) (fr:List (Nat × V)) (bl:List (Nat × Option aI)) (k:List (Nat × V)->List (Nat × Option aI)->Option β):Option β:=k (m.app ⟨fr,bl⟩).fr (m.app ⟨fr,bl⟩).bl
theorem aM1 {k:Ex->St->Option β} (m:BV) (a:aD):bD T (.pre m a) ⟨fr,bl⟩ k = CK m fr bl fun fr' bl'=>bD T a ⟨fr',bl'⟩ k:=by
 rw [aKu]; rfl
theorem aMd {k:Ex->St->Option β} (m:BV):aBk m k .normal ⟨fr,bl⟩ = CK m fr bl fun fr' bl'=>k .normal ⟨fr',bl'⟩:=by
 rw [aMq]; rfl
def CA (keep:List Nat) (bl:List (Nat × Option aI)) (v:V) (k:V->Option β):Option β:=k (NW keep (lk bl none) v)
def WD (keep:List Nat) (fr:List (Nat × V)) (bl:List (Nat × Option aI)):List Nat->(List (Nat × V)->Option β)->Option β
 | [],k=>k []
 | t :: r,k=>CS fr t fun v=>CA keep bl v fun v'=>WD keep fr bl r fun l=>k ((t,v') :: l)
theorem aH9 (keep l:List Nat):∀ (k:List (Nat × V)->Option β),WD keep fr bl l k = k (l.map fun t=>(t,NW keep (lk bl none) (lk fr .any t))):=by
 induction l with
 | nil=>intro k; rfl
 | cons t l ih=>intro k; simp only [WD,CS,CA,ih,List.map_cons]
def LI (keep:List Nat) (bl:List (Nat × Option aI)) (b:Option aI) (k:Option aI->Option β):Option β:=k (b.bind (FW keep (lk bl none)))
def US (keep:List Nat) (bl:List (Nat × Option aI)):List Nat->(List (Nat × Option aI)->Option β)->Option β
 | [],k=>k []
 | i :: r,k=>cY bl i fun b=>LI keep bl b fun b'=>US keep bl r fun l=>k ((i,b') :: l)
theorem aG6 (keep l:List Nat):∀ (k:List (Nat × Option aI)->Option β),US keep bl l k = k (l.map fun i=>(i,(lk bl none i).bind (FW keep (lk bl none)))):=by
 induction l with
 | nil=>intro k; rfl
 | cons t l ih=>intro k; simp only [US,cY,LI,ih,List.map_cons]
theorem aEY (keep:List Nat) (k:List (Nat × V)->Option β):WD keep fr bl [] k = k []:=rfl
theorem aDM (keep:List Nat) (t:Nat) (r:List Nat) (k:List (Nat × V)->Option β):WD keep fr bl (t :: r) k = CS fr t fun v=>CA keep bl v fun v'=>WD keep fr bl r fun l=>k ((t,v') :: l):=rfl
theorem aGb (keep:List Nat) (k:List (Nat × Option aI)->Option β):US keep bl [] k = k []:=rfl
theorem aCJ (keep:List Nat) (i:Nat) (r:List Nat) (k:List (Nat × Option aI)->Option β):US keep bl (i :: r) k = cY bl i fun b=>LI keep bl b fun b'=>US keep bl r fun l=>k ((i,b') :: l):=rfl
theorem aLO (live keep:List Nat) (k:List (Nat × V)->List (Nat × Option aI)->Option β):CK ⟨live,keep,[],[],[],[]⟩ fr bl k = WD keep fr bl live fun fr'=>US keep bl keep fun bl'=>k fr' bl':=by
 rw [aH9,aG6]; rfl
def oP (keep:List Nat) (i:Nat) (x y:Option β):Option β:=if keep.contains i = true then x else y
theorem WJ (i:Nat) (r:List Nat) (x y:Option β):oP (i :: r) i x y = x:=by simp [oP]
theorem T8 (a i:Nat) (r:List Nat) (x y:Option β) (h:(i == a) = false):oP (a :: r) i x y = oP r i x y:=by
 unfold oP
 rw [List.contains_cons,h,Bool.false_or]
section
variable (keep:List Nat)
theorem aK2 (x:D):CA keep bl (.d x) k = k (.d x):=rfl
theorem aE4:CA keep bl .nil k = k .nil:=rfl
def Z6 (keep:List Nat) (id off:Nat) (b:Option aI) (k:V->Option β):Option β:=match b with
 | some (.box _)=>oP keep id (k (.ptr id off)) (k .any)
 | some (.fbox ds)=>k (.d (.ptr ds off))
 | _=>k .any
theorem aDI (id off:Nat) (cs:List V):Z6 keep id off (some (.box cs)) k = oP keep id (k (.ptr id off)) (k .any):=rfl
theorem aAl (id off:Nat) (ds:List D):Z6 keep id off (some (.fbox ds)) k = k (.d (.ptr ds off)):=rfl
theorem aFJ (id off:Nat):CA keep bl (.ptr id off) k = cY bl id fun b=>Z6 keep id off b k:=by
 unfold CA cY Z6
 simp only [NW,YN,y8]
 generalize lk bl none id = b
 cases b with
 | none=>rfl
 | some b=>cases b with
  | box cs=>simp only [oP]; split <;> rfl
  | _=>rfl
def VC (id ver:Nat) (b:Option aI) (k:V->Option β):Option β:=match b with
 | some (.rows v _ _ _)=>if (ver == v) = true then oP keep id (k (.own id 0)) (k .any) else k .any
 | some (.froz v rows)=>if ver = v then k (.d (.sl rows)) else k .any
 | _=>k .any
theorem aFv (id ver:Nat):CA keep bl (.own id ver) k = cY bl id fun b=>VC keep id ver b k:=by
 unfold CA cY VC oP
 simp only [NW,YN,y8]
 generalize lk bl none id = b
 cases b with
 | none=>rfl
 | some b=>cases b with
  | rows v e s rows=>simp only; cases (ver == v) <;> cases keep.contains id <;> rfl
  | froz v rows=>simp only; split <;> rfl
  | _=>rfl
theorem aBU (id v e s:Nat) (rows:List (List D)):VC keep id v (some (.rows v e s rows)) k = oP keep id (k (.own id 0)) (k .any):=by simp [VC]
theorem aBV (id v:Nat) (rows:List (List D)):VC keep id v (some (.froz v rows)) k = k (.d (.sl rows)):=if_pos rfl
def EY (keep:List Nat) (bl:List (Nat × Option aI)):List V->(List V->Option β)->Option β
 | [],k=>k []
 | v :: cs,k=>k (y8 keep (lk bl none) v :: cs.map (y8 keep (lk bl none)))
theorem G1 (cs:List V) (k:List V->Option β):EY keep bl cs k = k (cs.map (y8 keep (lk bl none))):=by cases cs <;> rfl
theorem aB4 (k:List V->Option β):EY keep bl [] k = k []:=rfl
theorem aJm (x:D) (cs:List V) (k:List V->Option β):EY keep bl (.d x :: cs) k = EY keep bl cs fun l=>k (.d x :: l):=by simp only [G1]; rfl
theorem aHm (cs:List V) (k:List V->Option β):EY keep bl (.nil :: cs) k = EY keep bl cs fun l=>k (.nil :: l):=by simp only [G1]; rfl
theorem aDo (id ver:Nat) (cs:List V) (k:List V->Option β):EY keep bl (.own id ver :: cs) k = CA keep bl (.own id ver) fun v=>EY keep bl cs fun l=>k (v :: l):=by simp only [G1]; rfl
theorem QM (ds:List D) (b:Nat->Option aI):(aK ds).map (y8 keep b) = aK ds:=by
 induction ds with
 | nil=>rfl
 | cons x ds ih=>show y8 keep b (.d x) :: (aK ds).map (y8 keep b) = _; rw [ih]; rfl
theorem aCe (ds:List D):CA keep bl (fL ds) k = k (fL ds):=by
 show k (.agg ((aK ds).map (y8 keep (lk bl none)))) = _
 rw [QM]; rfl
theorem aAI (k:Option aI->Option β):LI keep bl none k = k none:=rfl
theorem aCw (c:V) (cs:List V) (k:Option aI->Option β):LI keep bl (some (.box (c :: cs))) k = EY keep bl (c :: cs) fun l=>k (some (.box l)):=by rw [G1]; rfl
theorem W3 (ds:List D) (k:Option aI->Option β):LI keep bl (some (.box (aK ds))) k = k (some (.box (aK ds))):=by
 show k (some (.box ((aK ds).map (y8 keep (lk bl none))))) = _
 rw [QM]
theorem aBF (v e s:Nat) (rows:List (List D)) (k:Option aI->Option β):LI keep bl (some (.rows v e s rows)) k = k (some (.rows 0 e s rows)):=rfl
end
def aQk (res:List yG):Ex->St->Option D
 | .normal,s=>match aP (D6 s) res with
  | none=>none
  | some [v]=>lF s.blk v
  | some vs=>toD s.blk (.tup vs)
 | .ret,s=>match aP (D6 s) res with
  | none=>none
  | some [v]=>lF s.blk v
  | some vs=>toD s.blk (.tup vs)
 | .exit _,_=>none
def TP (fr:List (Nat × V)) (bl:List (Nat × Option aI)):List yG->(List D->Option D)->Option D
 | [],k=>k []
 | .tmp t :: r,k=>CS fr t fun v=>J7 v bl fun x _=>TP fr bl r fun l=>k (x :: l)
 | .cell t size isAgg :: r,k=>CS fr t fun p=>FS size isAgg p bl fun v=>J7 v bl fun x _=>TP fr bl r fun l=>k (x :: l)
def aEn:List D->Option D
 | [x]=>some x
 | l=>some (.tup l)
theorem aAS (size:Nat) (a:Bool) (p:V):FS size a p bl k = (S0 size a p (lk bl none)).bind fun r=>k r.1:=by
 have h:=aBx (T:=fun _=>none) (d:=0) (fr:=[]) (bl:=bl) (k:=k) (kw:=fun v _=>k v) size a (.c p)
 have e:cJ [] (.c p) (fun v=>FS size a v bl k) = FS size a p bl k:=rfl
 rw [← e,← h,rA,P7]
 show P6 (S0 size a p (lk bl none)) k (fun v _=>k v) = _
 cases S0 size a p (lk bl none) with
 | none=>rfl
 | some r=>obtain ⟨v,wr⟩:=r; cases wr <;> rfl
theorem YU (fr:List (Nat × V)) (bl:List (Nat × Option aI)):St.blk ⟨fr,bl⟩ = lk bl none:=rfl
theorem aMC (res:List yG):∀ (k:List D->Option D),TP fr bl res k = (aP (D6 ⟨fr,bl⟩) res).bind fun vs=>(aP (lF (lk bl none)) vs).bind k:=by
 induction res with
 | nil=>intro k; rfl
 | cons r res ih =>
  intro k
  cases r with
  | tmp t =>
   simp only [TP,CS,J7,ih,aP,D6,YV,YU]
   cases h1:aP (D6 ⟨fr,bl⟩) res with
   | none =>
    simp only [Option.bind_none]
    cases lF (lk bl none) (lk fr .any t) <;> rfl
   | some vs =>
    simp only [Option.bind_some,aP]
    cases lF (lk bl none) (lk fr .any t) with
    | none=>rfl
    | some x=>cases aP (lF (lk bl none)) vs <;> rfl
  | cell t size isAgg =>
   simp only [TP,CS,aAS,J7,ih,aP,D6,P7,YV,YU]
   cases S0 size isAgg (lk fr .any t) (lk bl none) with
   | none=>rfl
   | some q =>
    obtain ⟨v,wr⟩:=q
    simp only [Option.bind_some]
    cases h1:aP (D6 ⟨fr,bl⟩) res with
    | none =>
     simp only [Option.bind_none]
     cases lF (lk bl none) v <;> rfl
    | some vs =>
     simp only [Option.bind_some,aP]
     cases lF (lk bl none) v with
     | none=>rfl
     | some x=>cases aP (lF (lk bl none)) vs <;> rfl
theorem aLJ (res:List yG):(match aP (D6 ⟨fr,bl⟩) res with
  | none=>none
  | some [v]=>lF (lk bl none) v
  | some vs=>toD (lk bl none) (.tup vs)) = TP fr bl res aEn:=by
 rw [aMC]
 cases aP (D6 ⟨fr,bl⟩) res with
 | none=>rfl
 | some vs =>
  simp only [Option.bind_some]
  cases vs with
  | nil=>rfl
  | cons v vs =>
   cases vs with
   | nil =>
    simp only [aP]
    cases lF (lk bl none) v <;> rfl
   | cons w ws =>
    show (aP (lF (lk bl none)) (v :: w :: ws)).map D.tup = _
    simp only [aP]
    cases lF (lk bl none) v with
    | none=>rfl
    | some x=>cases lF (lk bl none) w with
     | none=>rfl
     | some y=>cases aP (lF (lk bl none)) ws <;> rfl
theorem aO8 (res:List yG):aQk res .ret ⟨fr,bl⟩ = TP fr bl res aEn:=aLJ res
theorem aJc (k:List D->Option D):TP fr bl [] k = k []:=rfl
theorem aI8 (t:Nat) (r:List yG) (k:List D->Option D):TP fr bl (.tmp t :: r) k = CS fr t fun v=>J7 v bl fun x _=>TP fr bl r fun l=>k (x :: l):=rfl
theorem aEF (t size:Nat) (isAgg:Bool) (r:List yG) (k:List D->Option D):TP fr bl (.cell t size isAgg :: r) k = CS fr t fun p=>FS size isAgg p bl fun v=>J7 v bl fun x _=>TP fr bl r fun l=>k (x :: l):=rfl
theorem aM5 (x:D):aEn [x] = some x:=rfl
theorem aNa (x y:D) (l:List D):aEn (x :: y :: l) = some (.tup (x :: y :: l)):=rfl
theorem aR {T:CO} {f np nt:Nat} {res:List yG} {body:aD} (hf:T f = some (.code ⟨np,nt,res,body,false,false⟩)) (ds:List D) (hl:ds.length = np) (hlt:nR 0 ds = none):Vm.call T f ds = bD T body ⟨tJ 0 ds,[]⟩ (aQk res):=by
 rw [aHX hf ds hl hlt]
 unfold bD
 cases Vm.ev T body ⟨tJ 0 ds,[]⟩ with
 | none=>rfl
 | some q =>
  obtain ⟨e,s⟩:=q
  cases e <;> rfl
def aCm (v:V) (b:Option aI) (x y:Option β):Option β:=match v,b with
 | .nil,none=>x
 | _,_=>y
theorem aOC (x y:Option β):aCm .nil none x y = x:=rfl
theorem aHd (i v:Nat) (b:Option aI) (x y:Option β):aCm (.own i v) b x y = y:=rfl
theorem aLz (live keep:List Nat) (t i e s:Nat) (l:List (Nat × Nat × Nat × Nat)) (c:List (Nat × Nat × Nat × Nat × Nat)) (ft:List Nat) (fc:List (Nat × Nat)) (k:List (Nat × V)->List (Nat × Option aI)->Option β) (hs:0 < s) :
  CK ⟨live,keep,(t,i,e,s) :: l,c,ft,fc⟩ fr bl k = CS fr t fun v=>cY bl i fun b=>aCm v b (WQ e [] fun rows=>CK ⟨live,keep,l,c,ft,fc⟩ ((t,.own i 0) :: fr) ((i,some (.rows 0 e s rows)) :: bl) k) (CK ⟨live,keep,l,c,ft,fc⟩ fr bl k):=by
 show CK ⟨live,keep,(t,i,e,s) :: l,c,ft,fc⟩ fr bl k = aCm (lk fr .any t) (lk bl none i) _ _
 unfold CK
 rw [aQp]
 unfold mkT WQ
 show k (BV.app ⟨live,keep,l,c,ft,fc⟩ (match lk fr .any t,lk bl none i with | .nil,none=>if 0 < s then _ else _ | _,_=>_)).fr (BV.app ⟨live,keep,l,c,ft,fc⟩ (match lk fr .any t,lk bl none i with | .nil,none=>if 0 < s then _ else _ | _,_=>_)).bl = _
 generalize lk fr .any t = v
 generalize lk bl none i = b
 cases v with
 | nil=>cases b with
  | none=>simp only [aCm,if_pos hs]
  | some b=>rfl
 | _=>rfl
def aI7 (b0:Option aI) (n:Nat) (b:Option aI) (x:List V->Option β) (y:Option β):Option β:=match b0 with
 | some (.box cs)=>match cs[n]?,b with
  | some .nil,none=>x cs
  | _,_=>y
 | _=>y
theorem aKr (live keep:List Nat) (i n j e s:Nat) (c:List (Nat × Nat × Nat × Nat × Nat)) (ft:List Nat) (fc:List (Nat × Nat)) (k:List (Nat × V)->List (Nat × Option aI)->Option β) (hs:0 < s) :
  CK ⟨live,keep,[],(i,n,j,e,s) :: c,ft,fc⟩ fr bl k = cY bl i fun b0=>cY bl j fun b=>aI7 b0 n b (fun cs=>EA cs n (.own j 0) fun cs'=>WQ e [] fun rows=>CK ⟨live,keep,[],c,ft,fc⟩ fr ((i,some (.box cs')) :: (j,some (.rows 0 e s rows)) :: bl) k) (CK ⟨live,keep,[],c,ft,fc⟩ fr bl k):=by
 show CK ⟨live,keep,[],(i,n,j,e,s) :: c,ft,fc⟩ fr bl k = aI7 (lk bl none i) n (lk bl none j) _ _
 unfold CK
 rw [aQA]
 have hm:∀ b0 b,lk bl none i = b0->lk bl none j = b->mkC (i,n,j,e,s) ⟨fr,bl⟩ = (match b0,b with
  | some (.box cs),none=>match cs[n]? with
   | some .nil=>if 0 < s then ⟨fr,(i,some (.box (cs.set n (.own j 0)))) :: (j,some (.rows 0 e s [])) :: bl⟩ else ⟨fr,bl⟩
   | _=>⟨fr,bl⟩
  | _,_=>⟨fr,bl⟩):=by
  rintro _ _ rfl rfl; rfl
 have hm:=hm _ _ rfl rfl
 rw [hm]
 generalize lk bl none i = b0
 generalize lk bl none j = b
 cases b0 with
 | none=>rfl
 | some b0=>cases b0 with
  | box cs =>
   cases b with
   | none =>
    simp only [aI7]
    cases h:cs[n]? with
    | none=>rfl
    | some v =>
     cases v with
     | nil =>
      have hn:n < cs.length:=by
       rw [List.getElem?_eq_some_iff] at h
       exact h.1
      simp only [if_pos hs,aAn,WQ]
      rw [if_pos (by omega)]
      have:∀ (cs:List V) (n:Nat),n < cs.length->j6 cs n [.own j 0] = cs.set n (.own j 0):=by
       intro cs
       induction cs with
       | nil=>intro n h; simp at h
       | cons c cs ih =>
        intro n h
        cases n with
        | zero=>cases cs <;> rfl
        | succ n=>simp only [j6,List.set_cons_succ]; rw [ih n (by simpa using h)]
      rw [this cs n hn]
     | _=>rfl
   | some b=>simp only [aI7]; cases cs[n]? with
    | none=>rfl
    | some v=>cases v <;> rfl
  | _=>cases b <;> rfl
theorem aCP (k:List (Nat × Nat × V)->Option β):OJ fr [] k = k []:=rfl
theorem aBo (o s:Nat) (x:bS) (l:List (Nat × Nat × bS)) (k:List (Nat × Nat × V)->Option β):OJ fr ((o,s,x) :: l) k = cJ fr x fun v=>OJ fr l fun vs=>k ((o,s,v) :: vs):=rfl
theorem aEM (l:List (Nat × Nat × bS)):∀ (k:List (Nat × Nat × V)->Option β),OJ fr l k = k (l.map fun p=>(p.1,p.2.1,bI (lk fr .any) p.2.2)):=by
 induction l with
 | nil=>intro k; rfl
 | cons p l ih=>intro k; obtain ⟨o,s,x⟩:=p; simp only [OJ,cJ,ih,List.map_cons]
def WC (z:List V):List (Nat × Nat × V)->(List V->Option β)->Option β
 | [],k=>k z
 | (off,size,v) :: r,k=>IX v fun cs=>QA cs size (BX z off cs fun z'=>WC z' r k)
theorem aE3 (z:List V) (k:List V->Option β):WC z [] k = k z:=rfl
theorem aC1 (z:List V) (off size:Nat) (v:V) (r:List (Nat × Nat × V)) (k:List V->Option β):WC z ((off,size,v) :: r) k = IX v fun cs=>QA cs size (BX z off cs fun z'=>WC z' r k):=rfl
theorem aIK (ps:List (Nat × Nat × V)):∀ (z:List V) (k:List V->Option β),WC z ps k = (KV z ps).bind k:=by
 induction ps with
 | nil=>intro z k; rfl
 | cons p r ih =>
  intro z k
  obtain ⟨off,size,v⟩:=p
  simp only [WC,KV,IX,QA,BX,ih]
  by_cases h1:v.known = true
  ·by_cases h2:v.cells.length = size
   ·subst h2
    by_cases h3:off + v.cells.length <= z.length
    ·rw [if_pos h1,if_pos rfl,if_pos h3,if_pos ⟨rfl,h3,h1⟩]
    ·rw [if_pos h1,if_pos rfl,if_neg h3,if_neg (fun q=>h3 q.2.1)]; rfl
   ·rw [if_pos h1,if_neg h2,if_neg (fun q=>h2 q.1)]; rfl
  ·rw [if_neg h1,if_neg (fun q=>h1 q.2.2)]; rfl
theorem aEZ (z:List V) (parts:List (Nat × Nat × bS)):AC T d (.build z parts) fr bl k kw = OJ fr parts fun ps=>WC z ps fun cs=>k (.agg cs):=by
 rw [rA,aEM,aIK]
 simp only [b9]
 have e1:(parts.map fun x=>match x with | (o,s,x)=>(o,s,bI (lk fr .any) x)) = parts.map fun p=>(p.1,p.2.1,bI (lk fr .any) p.2.2):=rfl
 rw [e1]
 cases KV z (parts.map fun p=>(p.1,p.2.1,bI (lk fr .any) p.2.2)) <;> rfl
theorem VG (ds:List D):(aK ds).length = ds.length:=by simp [aK]
def aN9 (bytes:Nat) (a b:V) (x:Nat->Option β):Option β:=match a,b with
 | .d (.int _ n),.d (.int _ m)=>if 0 <= n ∧ n <= m ∧ (bytes:Int) * m <= 281474976710656 ∧ m <= 9223372036854775807 then x n.toNat else none
 | _,_=>none
theorem aO4 (bytes:Nat) (i j:IntKind) (n m:Int) (x:Nat->Option β):aN9 bytes (.d (.int i n)) (.d (.int j m)) x = if 0 <= n ∧ n <= m ∧ (bytes:Int) * m <= 281474976710656 ∧ m <= 9223372036854775807 then x n.toNat else none:=rfl
theorem aPM {α:Type} (e size bytes:Nat) (z:List D) (c:α->List D) (x:α) (hz:z = c x) (l cp:bS):AC T d (.makeSlice e size bytes z l cp) fr bl k kw = cY bl d fun b=>lW b (cJ fr l fun a=>cJ fr cp fun b=>aN9 bytes a b fun n=>kw (.own d 0) [(d,some (.rows 0 e size (cM c (List.replicate n x))))]):=XE e size bytes z c x hz l cp
theorem aHi {k:Ex->St->Option β} (c:bS) (a b:aD):bD T (.cond c a b) ⟨fr,bl⟩ k = cJ fr c fun v=>aBg v (bD T a ⟨fr,bl⟩ k) (bD T b ⟨fr,bl⟩ k):=aJU c a b _
theorem aL0 (a b c:List (Nat × Option aI)) (t:Nat) (k:Option aI->Option β):cY ((a ++ b) ++ c) t k = cY (a ++ (b ++ c)) t k:=by rw [List.append_assoc]
def aBa:List V->Nat->(V->Option β)->Option β->Option β
 | [],_,_,y=>y
 | c :: _,0,x,_=>x c
 | _ :: cs,n + 1,x,y=>aBa cs n x y
theorem aOQ (c:V) (cs:List V) (x:V->Option β) (y:Option β):aBa (c :: cs) 0 x y = x c:=rfl
theorem aOD (c:V) (cs:List V) (n:Nat) (x:V->Option β) (y:Option β):aBa (c :: cs) (n + 1) x y = aBa cs n x y:=rfl
theorem aHb (cs:List V) (n:Nat) (b:Option aI) (x:List V->Option β) (y:Option β):aI7 (some (.box cs)) n b x y = aBa cs n (fun v=>aCm v b (x cs) y) y:=by
 have:∀ (l:List V) (n:Nat),(match l[n]?,b with | some .nil,none=>x cs | _,_=>y) = aBa l n (fun v=>aCm v b (x cs) y) y:=by
  intro l
  induction l with
  | nil=>intro n; rfl
  | cons c l ih=>intro n; cases n with
   | zero=>cases c <;> cases b <;> rfl
   | succ n=>exact ih n
 exact this cs n
def aHt (rows:List (List D)) (k:V->Option β):Option β:=k (.d (.int .i64 rows.length))
theorem aLX {α:Type} (c:α->List D) (xs:List α):aHt (cM c xs) k = k (.d (.int .i64 (xs.length:Int))):=by unfold aHt; rw [HF]
theorem aLf (x:bS):AC T d (.len x) fr bl k kw = cJ fr x fun a=>PK a bl fun rows=>aHt rows k:=aK4 x
def aA4 (v:V) (bl:List (Nat × Option aI)) (k:V->List (Nat × Option aI)->Option β) (y:Option β):Option β:=match lZ (lk bl none) v with
 | some x=>k (.d x) (E2 (lk bl none) v)
 | none=>y
def aLh (n:Nat) (b:Option aI) (bl:List (Nat × Option aI)) (k:List V->List (Nat × Option aI)->Option β) (y:Option β):Option β:=match b with
 | some (.box cs)=>match cs[n]? with
  | some v=>match lZ (lk bl none) v with
   | some d=>k (cs.set n (.d d)) (E2 (lk bl none) v)
   | none=>y
  | none=>y
 | _=>y
theorem aJu (live keep:List Nat) (i n:Nat) (fc:List (Nat × Nat)) (k:List (Nat × V)->List (Nat × Option aI)->Option β) :
  CK ⟨live,keep,[],[],[],(i,n) :: fc⟩ fr bl k = cY bl i fun b=>aLh n b bl (fun cs wr=>CK ⟨live,keep,[],[],[],fc⟩ fr ((i,some (.box cs)) :: (wr ++ bl)) k) (CK ⟨live,keep,[],[],[],fc⟩ fr bl k):=by
 unfold CK
 rw [aOR]
 unfold frC cY aLh
 rw [YU]
 dsimp only
 cases lk bl none i with
 | none=>rfl
 | some b =>
  cases b with
  | box cs =>
   simp only
   cases cs[n]? with
   | none=>rfl
   | some v =>
    simp only
    cases lZ (lk bl none) v <;> rfl
  | _=>rfl
theorem aOZ (cs:List V) (n:Nat) (w:V) (k:List V->Option β) (h:n < cs.length):EA cs n w k = k (cs.set n w):=by
 induction cs generalizing n k with
 | nil=>simp at h
 | cons c cs ih=>cases n with
  | zero=>rfl
  | succ n=>simp only [EA,List.set_cons_succ]; rw [ih n _ (by simpa using h)]
theorem aJZ (n:Nat) (cs:List V) (k:List V->List (Nat × Option aI)->Option β) (y:Option β):aLh n (some (.box cs)) bl k y = aBa cs n (fun v=>aA4 v bl (fun v' wr=>EA cs n v' fun cs'=>k cs' wr) y) y:=by
 have e:∀ (l:List V) (n:Nat) (x:V->Option β),aBa l n x y = match l[n]? with | some v=>x v | none=>y:=by
  intro l
  induction l with
  | nil=>intro n x; rfl
  | cons c l ih=>intro n x; cases n with
   | zero=>rfl
   | succ n=>exact ih n x
 rw [e]
 simp only [aLh,aA4]
 cases h:cs[n]? with
 | none=>rfl
 | some v =>
  simp only
  cases lZ (lk bl none) v with
  | none=>rfl
  | some d=>simp only; rw [aOZ _ _ _ _ (List.getElem?_eq_some_iff.1 h).1]
theorem aKX (x:D) (k:V->List (Nat × Option aI)->Option β) (y:Option β):aA4 (.d x) bl k y = k (.d x) []:=rfl
def aOc (id off:Nat) (b:Option aI) (bl:List (Nat × Option aI)) (k:V->List (Nat × Option aI)->Option β) (y:Option β):Option β:=match b with
 | some (.box cs)=>match aP (t9 (lk bl none)) cs with
  | some ds=>k (.d (.ptr ds off)) ((id,some (.fbox ds)) :: cs.flatMap (OL (lk bl none)))
  | none=>y
 | some (.fbox cs)=>k (.d (.ptr cs off)) []
 | _=>y
theorem aF0 (id off:Nat) (k:V->List (Nat × Option aI)->Option β) (y:Option β):aA4 (.ptr id off) bl k y = cY bl id fun b=>aOc id off b bl k y:=by
 unfold aA4 cY aOc
 simp only [lZ,E2]
 generalize lk bl none id = b
 cases b with
 | none=>rfl
 | some b =>
  cases b with
  | box cs =>
   dsimp only
   cases aP (t9 (lk bl none)) cs <;> rfl
  | _=>rfl
end
end Vm
end Go.Proofs.Ytjjcaapdaldedaa
namespace Go.Proofs.Ytjjcaapdaldedaa
namespace Vm
open Go.RowKit
section
variable {β:Type} {T:CO}
def PR (d:Nat) (op:iF) (fr:List (Nat × V)) (bl:List (Nat × Option aI)) (k:List Nat->Option β):Option β :=
 k ((if op.new = true then [d] else []) ++ ((op.peeks.flatMap fun x=>(bI (lk fr .any) x).ids) ++ op.deeps.flatMap fun x=>(bI (lk fr .any) x).dids (lk bl none)))
def QW (wr:List (Nat × Option aI)) (k:List Nat->Option β):Option β:=k (wr.map (·.1))
theorem aGa (k:List Nat->Option β):QW [] k = k []:=rfl
theorem aMS (i:Nat) (b:Option aI) (w:List (Nat × Option aI)) (k:List Nat->Option β):QW ((i,b) :: w) k = QW w fun l=>k (i :: l):=rfl
theorem aIq (w:List (Nat × Option aI)) (k:List Nat->Option β):QW ([] ++ w) k = QW w k:=rfl
theorem aHY (u v w:List (Nat × Option aI)) (k:List Nat->Option β):QW ((u ++ v) ++ w) k = QW (u ++ (v ++ w)) k:=by rw [List.append_assoc]
theorem aB8 (d st:Nat) (op:iF) (l:List aT) (fr:List (Nat × V)) (bl:List (Nat × Option aI)) (fp:List Fp) (k:St->List Fp->Option β) :
  qF T (⟨some d,op,none,st⟩ :: l) ⟨fr,bl⟩ fp k = AC T st op fr bl (fun v=>PR st op fr bl fun f=>qF T l ⟨(d,v) :: fr,bl⟩ ((f,[]) :: fp) k) (fun v wr=>QW wr fun ws=>PR st op fr bl fun f=>qF T l ⟨(d,v) :: fr,wr ++ bl⟩ ((f,ws) :: fp) k):=by
 rw [V7]
 unfold AC LF PR
 show (match b9 (call T) st (bI (lk fr .any)) (lk bl none) op with | some (v,wr)=>_ | none=>none) = _
 cases b9 (call T) st (bI (lk fr .any)) (lk bl none) op with
 | none=>rfl
 | some r=>obtain ⟨v,wr⟩:=r; cases wr <;> rfl
theorem aAT (st:Nat) (op:iF) (l:List aT) (fr:List (Nat × V)) (bl:List (Nat × Option aI)) (fp:List Fp) (k:St->List Fp->Option β) :
  qF T (⟨none,op,none,st⟩ :: l) ⟨fr,bl⟩ fp k = AC T st op fr bl (fun _=>PR st op fr bl fun f=>qF T l ⟨fr,bl⟩ ((f,[]) :: fp) k) (fun _ wr=>QW wr fun ws=>PR st op fr bl fun f=>qF T l ⟨fr,wr ++ bl⟩ ((f,ws) :: fp) k):=by
 rw [V7]
 unfold AC LF PR
 show (match b9 (call T) st (bI (lk fr .any)) (lk bl none) op with | some (v,wr)=>_ | none=>none) = _
 cases b9 (call T) st (bI (lk fr .any)) (lk bl none) op with
 | none=>rfl
 | some r=>obtain ⟨v,wr⟩:=r; cases wr <;> rfl
theorem aGJ (fr:List (Nat × V)) (bl:List (Nat × Option aI)) (fp:List Fp) (k:St->List Fp->Option β):qF T [] ⟨fr,bl⟩ fp k = k ⟨fr,bl⟩ fp:=rfl
theorem aLT {l:List aT} {ps:List (Nat × Nat)} {s:St} {fp:List Fp} (k:St->Option β) (h:QB l fp.reverse ps = true):aMP l ps k s fp = k s:=if_pos h
theorem H0 {d:Option Nat} {st:Nat} {g g' : Option (Nat × Bool)} {fr:Nat->V} {bl:Nat->Option aI} {wr:List (Nat × Option aI)} (t:Nat) (b:Bool) (op:iF):BQ ⟨d,QX t b op,g,st⟩ fr bl wr = BQ ⟨d,op,g',st⟩ fr bl wr:=by
 cases op with
 | pick c x y =>
  cases c with
  | t t' =>
   simp only [QX]
   split <;> rfl
  | c v=>rfl
 | _=>rfl
theorem aC3 {C:Nat->List D->Option D} {s:St} {t:Nat} {b:Bool} (h:s.get t = .d (.bool b)) (o:aT):lI C (QO t b o) s = lI C o s:=by
 obtain ⟨d,op,g,st⟩:=o
 cases g with
 | some g =>
  obtain ⟨t',w⟩:=g
  simp only [QO]
  split
  ·rename_i e
   subst e
   split
   ·rename_i e
    subst e
    simp only [lI,aT.wants,h,DT h]
    cases w <;> simp only [B7] <;> cases b9 C st (bI s.get) s.blk op <;> first | rfl | (simp [H0 (g':=some (t',false)),H0 (g':=some (t',true))]; done) | (simp [H0 (g':=some (t',false)),H0 (g':=some (t',true))]; rfl)
   ·rename_i e
    simp only [lI,aT.wants,h,b9,bI]
    cases w <;> cases b <;> simp_all [B7,BQ,iF.new,iF.peeks,iF.deeps]
  ·simp only [lI,aT.wants,DT h]
   cases B7 (s.get t') w <;> simp only [] <;> cases b9 C st (bI s.get) s.blk op <;> simp [H0 (g':=some (t',w))]
 | none =>
  simp only [QO,lI,aT.wants,DT h]
  cases b9 C st (bI s.get) s.blk op <;> simp [H0 (g':=none)]
theorem aB0 {C:Nat->List D->Option D} {o:aT} {s s' : St} {p:Fp} {t:Nat} (h:¬ o.dst = some t) (e:lI C o s = some (s',p)):s'.get t = s.get t:=by
 unfold lI at e
 split at e
 ·split at e
  ·cases e; exact IL h
  ·cases e
 ·cases e; exact IL h
 ·cases e
theorem N6 {t:Nat} {b:Bool}:∀ (l:List aT) {s:St} (fp:List Fp) (k:St->List Fp->Option β) (h:s.get t = .d (.bool b)),qF T (D7 t b l) s fp k = qF T l s fp k
 | [],s,fp,k,h=>rfl
 | o :: l,s,fp,k,h=>by
  simp only [D7,qF,aC3 h]
  cases e:lI (call T) o s with
  | none=>rfl
  | some q =>
   obtain ⟨s',p⟩:=q
   simp only
   split
   ·rfl
   ·rename_i hd
    exact N6 l _ k (by rw [aB0 hd e]; exact h)
noncomputable def Q4 (T:CO) (v:V) (t:Nat) (l:List aT) (s:St) (fp:List Fp) (k:St->List Fp->Option β):Option β:=match v with
 | .d (.bool b)=>if b = true then qF T (D7 t true l) s fp k else qF T (D7 t false l) s fp k
 | .tup []=>match l with
  | o :: r=>qF T r (s.put o.dst (.tup []) []) (([],[]) :: fp) k
  | []=>none
 | _=>none
theorem aAq (d:Option Nat) (op:iF) (t:Nat) (w:Bool) (st:Nat) (l:List aT) (fr:List (Nat × V)) (bl:List (Nat × Option aI)) (fp:List Fp) (k:St->List Fp->Option β) :
  qF T (⟨d,op,some (t,w),st⟩ :: l) ⟨fr,bl⟩ fp k = CS fr t fun v=>Q4 T v t (⟨d,op,some (t,w),st⟩ :: l) ⟨fr,bl⟩ fp k:=by
 show _ = Q4 T (lk fr .any t) t _ _ fp k
 generalize hv:lk fr .any t = v
 have bad:∀ (q:B7 v w = .bad),qF T (⟨d,op,some (t,w),st⟩ :: l) ⟨fr,bl⟩ fp k = none:=by
  intro q
  simp only [qF,lI,aT.wants]
  rw [show (St.get ⟨fr,bl⟩ t) = v from hv,q]
 cases v with
 | d x =>
  cases x with
  | bool b =>
   simp only [Q4]
   cases b with
   | true=>rw [if_pos rfl,N6 (t:=t) (b:=true) (s:=⟨fr,bl⟩) _ _ _ hv]
   | false=>rw [if_neg (by decide),N6 (t:=t) (b:=false) (s:=⟨fr,bl⟩) _ _ _ hv]
  | _=>exact bad rfl
 | tup vs =>
  cases vs with
  | nil =>
   simp only [Q4,qF,lI,aT.wants]
   rw [show (St.get ⟨fr,bl⟩ t) = _ from hv]
   rfl
  | cons x l=>exact bad rfl
 | _=>exact bad rfl
theorem aET (b:Bool) (t:Nat) (l:List aT) (s:St) (fp:List Fp) (k:St->List Fp->Option β):Q4 T (.d (.bool b)) t l s fp k = if b = true then qF T (D7 t true l) s fp k else qF T (D7 t false l) s fp k:=rfl
theorem vJ {l l' : List aT} {s:St} {fp:List Fp} {k:St->List Fp->Option β} (h:l = l'):qF T l s fp k = qF T l' s fp k:=by rw [h]
theorem aMa (x:D) (ds:List D) (k:D->Option β):dT (x :: ds) 0 k = k x:=rfl
section
variable {d:Nat} {fr:List (Nat × V)} {bl:List (Nat × Option aI)} {k:List Nat->Option β}
def MX (v:V) (k:List Nat->Option β):Option β:=k v.ids
theorem aOU (x:D):MX (.d x) k = k []:=rfl
theorem aH7 (i o:Nat):MX (.ptr i o) k = k [i]:=rfl
theorem aHM (i o:Nat):MX (.own i o) k = k [i]:=rfl
theorem aFW (i v j o:Nat):MX (.orow i v j o) k = k [i]:=rfl
def I6 (bl:List (Nat × Option aI)):List V->(List Nat->Option β)->Option β
 | [],k=>k []
 | c :: cs,k=>k (c.dids1 (lk bl none) ++ cs.flatMap (V.dids1 (lk bl none)))
def KN (bl:List (Nat × Option aI)) (v:V) (k:List Nat->Option β):Option β:=k (v.dids (lk bl none))
theorem LZ (cs:List V):I6 bl cs k = k (cs.flatMap (V.dids1 (lk bl none))):=by cases cs <;> rfl
theorem aCo:I6 bl [] k = k []:=rfl
theorem aIV (x:D) (cs:List V):I6 bl (.d x :: cs) k = I6 bl cs k:=by simp only [LZ]; rfl
theorem aJ8 (cs:List V):I6 bl (.nil :: cs) k = I6 bl cs k:=by simp only [LZ]; rfl
theorem aCf (i o:Nat) (cs:List V):I6 bl (.own i o :: cs) k = I6 bl cs fun l=>k (i :: l):=by simp only [LZ]; rfl
theorem aNr (x:D):KN bl (.d x) k = k []:=rfl
theorem aFH (i o:Nat):KN bl (.own i o) k = k [i]:=rfl
theorem aFS (cs:List V):KN bl (.agg cs) k = I6 bl cs k:=by rw [LZ]; rfl
theorem aA3 (ds:List D):(aK ds).flatMap (V.dids1 (lk bl none)) = []:=by
 induction ds with
 | nil=>rfl
 | cons x ds ih=>exact ih
theorem aCR (ds:List D):KN bl (fL ds) k = k []:=by
 show k ((aK ds).flatMap (V.dids1 (lk bl none))) = _
 rw [aA3]
theorem aKa (x:bS):PR d (.move x) fr bl k = k []:=rfl
theorem aFe (z:List V):PR d (.alloc z) fr bl k = k [d]:=rfl
theorem aGx (z:List V) (ps:List (Nat × Nat × bS)):PR d (.build z ps) fr bl k = k []:=rfl
theorem fp1 (l:List Nat):([]:List Nat) ++ ((l ++ []) ++ []) = l:=by simp
theorem aHf (s:Nat) (a:Bool) (x:bS):PR d (.load s a x) fr bl k = cJ fr x fun v=>MX v k:=by
 show k ([] ++ (((bI (lk fr .any) x).ids ++ []) ++ [])) = _
 rw [fp1]; rfl
theorem Z2 (x:bS):PR d (.nilCheck x) fr bl k = cJ fr x fun v=>MX v k:=by
 show k ([] ++ (((bI (lk fr .any) x).ids ++ []) ++ [])) = _
 rw [fp1]; rfl
theorem WL (o:Nat) (x:bS):PR d (.fieldAddr o x) fr bl k = cJ fr x fun v=>MX v k:=by
 show k ([] ++ (((bI (lk fr .any) x).ids ++ []) ++ [])) = _
 rw [fp1]; rfl
theorem aLB (x:bS):PR d (.len x) fr bl k = cJ fr x fun v=>MX v k:=by
 show k ([] ++ (((bI (lk fr .any) x).ids ++ []) ++ [])) = _
 rw [fp1]; rfl
theorem aE7 (s:Nat) (x:bS) (lo hi:Option bS):PR d (.slice s x lo hi) fr bl k = cJ fr x fun v=>MX v k:=by
 show k ([] ++ (((bI (lk fr .any) x).ids ++ []) ++ [])) = _
 rw [fp1]; rfl
theorem W0 (s:Nat) (x i:bS):PR d (.indexAddr s x i) fr bl k = cJ fr x fun v=>MX v k:=by
 show k ([] ++ (((bI (lk fr .any) x).ids ++ []) ++ [])) = _
 rw [fp1]; rfl
theorem aFx (s:Nat) (x v:bS):PR d (.store s x v) fr bl k = cJ fr x fun a=>MX a fun l=>cJ fr v fun b=>KN bl b fun m=>k (l ++ m):=by
 show k ([] ++ (((bI (lk fr .any) x).ids ++ []) ++ ((bI (lk fr .any) v).dids (lk bl none) ++ []))) = _
 rw [List.nil_append,List.append_nil,List.append_nil]; rfl
theorem aDJ (e s b:Nat) (x y:bS):PR d (.append e s b x y) fr bl k = cJ fr x fun u=>MX u fun l=>cJ fr y fun v=>MX v fun m=>k (d :: (l ++ m)):=by
 show k ([d] ++ (((bI (lk fr .any) x).ids ++ ((bI (lk fr .any) y).ids ++ [])) ++ [])) = _
 rw [List.append_nil,List.append_nil]; rfl
def K1 (fr:List (Nat × V)) (bl:List (Nat × Option aI)):List bS->(List Nat->Option β)->Option β
 | [],k=>k []
 | x :: l,k=>cJ fr x fun v=>KN bl v fun m=>K1 fr bl l fun n=>k (m ++ n)
theorem YC (l:List bS):∀ (k:List Nat->Option β),K1 fr bl l k = k (l.flatMap fun x=>(bI (lk fr .any) x).dids (lk bl none)):=by
 induction l with
 | nil=>intro k; rfl
 | cons x l ih=>intro k; simp only [K1,cJ,KN,ih,List.flatMap_cons]
theorem aCW (k:List Nat->Option β):K1 fr bl [] k = k []:=rfl
theorem aBJ (x:bS) (l:List bS) (k:List Nat->Option β):K1 fr bl (x :: l) k = cJ fr x fun v=>KN bl v fun m=>K1 fr bl l fun n=>k (m ++ n):=rfl
theorem aIl (f:Nat) (args:List bS):PR d (.call f args) fr bl k = K1 fr bl args k:=by
 rw [YC]; rfl
def OX (fr:List (Nat × V)) (bl:List (Nat × Option aI)):List (Nat × bS)->(List Nat->Option β)->Option β
 | [],k=>k []
 | (_,x) :: l,k=>cJ fr x fun v=>KN bl v fun m=>OX fr bl l fun n=>k (m ++ n)
theorem aFN (l:List (Nat × bS)):∀ (k:List Nat->Option β),OX fr bl l k = k ((l.map fun p=>p.2).flatMap fun x=>(bI (lk fr .any) x).dids (lk bl none)):=by
 induction l with
 | nil=>intro k; rfl
 | cons x l ih=>intro k; obtain ⟨i,x⟩:=x; simp only [OX,cJ,KN,ih,List.map_cons,List.flatMap_cons]
theorem aDN (k:List Nat->Option β):OX fr bl [] k = k []:=rfl
theorem aAe (i:Nat) (x:bS) (l:List (Nat × bS)) (k:List Nat->Option β):OX fr bl ((i,x) :: l) k = cJ fr x fun v=>KN bl v fun m=>OX fr bl l fun n=>k (m ++ n):=rfl
theorem UR (e s n:Nat) (z:List D) (ps:List (Nat × bS)):PR d (.buildSlice e s z n ps) fr bl k = OX fr bl ps fun l=>k (d :: l):=by
 rw [aFN]; rfl
theorem aMz (c:Nat) (op:BinOp) (x y:bS):PR d (.bin c op x y) fr bl k = k []:=rfl
theorem aPa (op:UnOp) (x:bS):PR d (.un op x) fr bl k = k []:=rfl
theorem aFt (o s:Nat) (a:Bool) (x:bS):PR d (.field o s a x) fr bl k = k []:=rfl
theorem aKp (l:List bS):PR d (.max l) fr bl k = k []:=rfl
theorem aBG (x:bS) (i:Nat):PR d (.extract x i) fr bl k = k []:=rfl
theorem aHH {k:Ex->St->Option β} (l:List aT) (ps:List (Nat × Nat)):bD T (.region l (some ps)) ⟨fr,bl⟩ k = qF T l ⟨fr,bl⟩ [] (aMP l ps (k .normal)):=by
 rw [aI1,aL5]
end
section
variable {d:Nat} {fr:List (Nat × V)} {bl:List (Nat × Option aI)} {k:V->Option β} {kw:V->List (Nat × Option aI)->Option β}
theorem aN1 (a b c:List (Nat × Option aI)) (v:V):fzK ((a ++ b) ++ c) v k kw = fzK (a ++ (b ++ c)) v k kw:=by rw [List.append_assoc]
def fzN (id:Nat) (f:List (Nat × Option aI)) (x:Option β):Option β:=if NX id f = true then x else none
theorem aKH (id:Nat) (x:Option β):fzN id [] x = x:=rfl
theorem aP1 (id i:Nat) (b:Option aI) (w:List (Nat × Option aI)) (x:Option β) (h:(i == id) = false):fzN id ((i,b) :: w) x = fzN id w x:=by
 have h:¬ i = id:=by simpa using h
 simp only [fzN,NX,if_neg h]
def qZ (row:List D) (off:Nat) (ds:List D) (size:Nat) (k:List D->Option β):Option β:=if ds.length = size ∧ off + size <= row.length then k (j6 row off ds) else none
theorem Z4 (c:D) (cs:List D) (off:Nat) (e:D) (ds:List D) (n:Nat) (k:List D->Option β):qZ (c :: cs) (off + 1) (e :: ds) n k = qZ cs off (e :: ds) n fun l=>k (c :: l):=by
 unfold qZ
 simp only [List.length_cons,j6]
 by_cases h:ds.length + 1 = n ∧ off + n <= cs.length
 ·exact (if_pos (by omega)).trans (if_pos h).symm
 ·exact (if_neg (by omega)).trans (if_neg h).symm
theorem aBc (c:D) (cs:List D) (e:D) (ds:List D) (n:Nat) (k:List D->Option β):qZ (c :: cs) 0 (e :: ds) (n + 1) k = qZ cs 0 ds n fun l=>k (e :: l):=by
 unfold qZ
 simp only [List.length_cons,j6]
 by_cases h:ds.length = n ∧ 0 + n <= cs.length
 ·exact (if_pos (by omega)).trans (if_pos h).symm
 ·exact (if_neg (by omega)).trans (if_neg h).symm
theorem aAb (cs:List D) (k:List D->Option β):qZ cs 0 [] 0 k = k cs:=by
 unfold qZ
 rw [if_pos ⟨rfl,by omega⟩,X7]
def G9 (e:Nat) (rows:List (List D)) (i:Nat) (row:List D) (k:List (List D)->Option β):Option β:=k (rows.set i row)
theorem VX {α:Type} (e:Nat) (c:α->List D) (xs:List α) (i:Nat) (x:α) (k:List (List D)->Option β):G9 e (cM c xs) i (c x) k = k (cM c (xs.set i x)):=by
 unfold G9
 rw [aPd]
theorem aLW {α:Type} (size v i off id e sz:Nat) (w:V) (c:α->List D) (xs:List α):PX size v i off id w bl (some (.rows v e sz (cM c xs))) kw = VI w bl fun ds f=>fzN id f (xs[i]?.bind fun x=>qZ (c x) off ds size fun row=>G9 e (cM c xs) i row fun rows=>kw .any ((id,some (.rows v e sz rows)) :: f)):=by
 unfold PX VI
 simp only [U3,if_true,cM,List.getElem?_map]
 cases xs[i]? with
 | none =>
  simp only [Option.map_none,Option.bind_none]
  cases aP (lZ (lk bl none)) w.cells with
  | none=>rfl
  | some ds=>simp only [fzN]; split <;> rfl
 | some x =>
  simp only [Option.map_some,Option.bind_some]
  cases aP (lZ (lk bl none)) w.cells with
  | none=>rfl
  | some ds =>
   simp only [qZ,G9,fzN]
   by_cases h1:NX id (zZ (lk bl none) w) = true
   ·rw [if_pos h1]
    by_cases h2:ds.length = size ∧ off + size <= (c x).length
    ·rw [if_pos h2,if_pos ⟨h2.1,h2.2,h1⟩]; rfl
    ·rw [if_neg h2,if_neg (fun q=>h2 ⟨q.1,q.2.1⟩)]; rfl
   ·rw [if_neg h1,if_neg (fun q=>h1 q.2.2)]; rfl
end
end
section
variable {β:Type} {T:CO} {bl:List (Nat × Option aI)} {k:V->Option β} {kw:V->List (Nat × Option aI)->Option β}
def T2 (size id ver:Nat) (lo hi:Option V) (b:Option aI) (k:V->Option β) (kw:V->List (Nat × Option aI)->Option β):Option β:=P6 (EC (fun _=>b) size (.own id ver) lo hi) k kw
theorem aCX (size id ver:Nat) (lo hi:Option V):RM size (.own id ver) lo hi bl k kw = cY bl id fun b=>T2 size id ver lo hi b k kw:=by
 unfold RM cY T2
 congr 1
 cases lo with
 | none=>cases hi with
  | none=>rfl
  | some h=>cases h with
   | d x=>cases x <;> rfl
   | _=>rfl
 | some l=>rfl
section
variable {α:Type} (size id v:Nat) (c:α->List D) (xs:List α) (hs:sized size (cM c xs) = true)
include hs
end
theorem aCb {α:Type} (size id v e s:Nat) (c:α->List D) (xs:List α) (kd:IntKind) (h:Int):T2 size id v none (some (.d (.int kd h))) (some (.rows v e s (cM c xs))) k kw = if 0 <= h ∧ h.toNat <= xs.length then kw (.own id (v + 1)) [(id,some (.rows (v + 1) e s (cM c (xs.take h.toNat))))] else none:=by
 unfold T2 EC
 simp only [cM,List.length_map,true_and,List.map_take]
 split <;> rfl
end
end Vm
end Go.Proofs.Ytjjcaapdaldedaa
namespace Go.Proofs.Ytjjcaapdaldedaa
namespace Vm
open Go.RowKit
section
variable {β:Type} {T:CO} {d:Nat} {fr:List (Nat × V)} {bl:List (Nat × Option aI)} {k:V->Option β} {kw:V->List (Nat × Option aI)->Option β}
theorem o6 {α:Type} (c:α->List D) (hc:∀ x,(c x).all JW = true) (xs:List α):uX (cM c xs) = true:=by
 unfold uX cM
 rw [List.all_eq_true]
 intro row hr
 obtain ⟨x,_,rfl⟩:=List.mem_map.1 hr
 exact hc x
def G8 (ver:Nat) (b:Option aI) (g:Nat->Nat->List (List D)->Option D):Option D:=match b with
 | some (.rows v e size rows)=>if ver = v then g e size rows else none
 | _=>none
end
section
variable {β:Type} {T:CO}
theorem aBj {c:aD} {n:Nat} {r:Ex × St}:∀ (k:Nat) (s:St),xT (bE (lG T n) n c) k s = some r->ev T (.loop c) s = some r
 | 0,s,e=>by cases e
 | k + 1,s,e=>by
  simp only [xT] at e
  cases hc:bE (lG T n) n c s with
  | none=>rw [hc] at e; cases e
  | some q =>
   have h1:=jD.2 ⟨n,hc⟩
   rw [hc] at e
   rw [YQ,h1]
   obtain ⟨ex,s'⟩:=q
   cases ex with
   | normal=>exact aBj k s' e
   | exit id=>exact e
   | ret=>exact e
noncomputable def aNI (T:CO) (c:aD):Ex × St->Option (Ex × St)
 | (.normal,s)=>ev T (.loop c) s
 | q=>some q
theorem aGd {S X:Type} {step:S->Option (S ⊕ X)} {c:aD} (enc:S->St) (out:X->Ex × St) (h:∀ s,ev T c (enc s) = bH enc out (step s)) (s:S) :
  ev T (.loop c) (enc s) = (b8 step s).bind fun x=>aNI T c (out x):=by
 refine yC fun r=>?_
 rw [Option.bind_eq_some_iff]
 constructor
 ·intro e
  obtain ⟨n,hn⟩:=jD.1 e
  simp only [bE] at hn
  generalize hk:(n:Nat) = k at hn
  have key:∀ (k:Nat) (s:S),xT (bE (lG T n) n c) k (enc s) = some r->∃ x,EM step k s = some x ∧ aNI T c (out x) = some r:=by
   intro k
   induction k with
   | zero=>intro s e; cases e
   | succ k ih =>
    intro s e
    simp only [xT] at e
    cases hc:bE (lG T n) n c (enc s) with
    | none=>rw [hc] at e; cases e
    | some q =>
     have h1:=jD.2 ⟨n,hc⟩
     rw [h s] at h1
     rw [hc] at e
     simp only [EM]
     cases hs:step s with
     | none=>rw [hs] at h1; cases h1
     | some y =>
      rw [hs] at h1
      cases y with
      | inl s' =>
       obtain rfl:=Option.some.inj h1
       exact ih s' e
      | inr x =>
       simp only [bH,Option.some.injEq] at h1
       refine ⟨x,rfl,?_⟩
       rw [h1]
       obtain ⟨ex,s'⟩:=q
       cases ex with
       | normal=>exact aBj k s' e
       | exit id=>exact e
       | ret=>exact e
  subst hk
  obtain ⟨x,g1,g2⟩:=key n s hn
  exact ⟨x,D4.2 ⟨n,g1⟩,g2⟩
 ·rintro ⟨x,h1,h2⟩
  obtain ⟨n,hn⟩:=D4.1 h1
  clear h1
  induction n generalizing s with
  | zero=>cases hn
  | succ n ih =>
   simp only [EM] at hn
   rw [YQ,h s]
   cases hs:step s with
   | none=>rw [hs] at hn; cases hn
   | some q =>
    rw [hs] at hn
    cases q with
    | inl s'=>exact ih s' hn
    | inr y =>
     obtain rfl:=Option.some.inj hn
     simp only [bH]
     cases ho:out y with
     | mk ex s' =>
      rw [ho] at h2
      cases ex with
      | normal=>exact h2
      | exit id=>exact h2
      | ret=>exact h2
noncomputable def aOd (T:CO) (c:aD) (k:Ex->St->Option β):Ex × St->Option β
 | (.normal,s)=>bD T (.loop c) s k
 | (e,s)=>k e s
theorem aGG {S X:Type} {step:S->Option (S ⊕ X)} {c:aD} {k:Ex->St->Option β} (enc:S->St) (out:X->Ex × St)
  (h:∀ s,bD T c (enc s) (fun e s'=>some (e,s')) = bH enc out (step s)) (s:S) :
  bD T (.loop c) (enc s) k = (b8 step s).bind fun x=>aOd T c k (out x):=by
 unfold bD
 rw [aGd enc out (fun s=>by
  have:=h s
  unfold bD at this
  rw [← this]
  cases ev T c (enc s) <;> rfl) s]
 cases b8 step s with
 | none=>rfl
 | some x =>
  simp only [Option.bind_some]
  cases out x with
  | mk e s'=>cases e <;> rfl
end
section
variable {β:Type} {T:CO} {fr:List (Nat × V)} {bl:List (Nat × Option aI)}
def LK (fr:List (Nat × V)):List Nat->(List V->Option β)->Option β
 | [],k=>k []
 | t :: l,k=>CS fr t fun v=>LK fr l fun vs=>k (v :: vs)
theorem aFP (l:List Nat) (k:List V->Option β):LK fr l k = k (l.map (lk fr .any)):=by
 induction l generalizing k with
 | nil=>rfl
 | cons x l ih=>simp only [LK,CS,ih,List.map_cons]
theorem aCG (k:List V->Option β):LK fr [] k = k []:=rfl
theorem aBp (t:Nat) (l:List Nat) (k:List V->Option β):LK fr (t :: l) k = CS fr t fun v=>LK fr l fun vs=>k (v :: vs):=rfl
theorem aGL (i:Nat):xM i [] = []:=rfl
theorem aC2 (i:Nat) (v:V) (l:List V):xM i (v :: l) = (i,v) :: xM (i + 1) l:=rfl
def aBD (fr:List (Nat × V)) (bl:List (Nat × Option aI)):List yG->(List V->Option β)->Option β
 | [],k=>k []
 | .tmp t :: r,k=>CS fr t fun v=>aBD fr bl r fun l=>k (v :: l)
 | .cell t size isAgg :: r,k=>CS fr t fun p=>FS size isAgg p bl fun v=>aBD fr bl r fun l=>k (v :: l)
theorem aMV (res:List yG):∀ (k:List V->Option β),aBD fr bl res k = (aP (D6 ⟨fr,bl⟩) res).bind k:=by
 induction res with
 | nil=>intro k; rfl
 | cons r res ih =>
  intro k
  cases r with
  | tmp t =>
   simp only [aBD,CS,ih,aP,D6,YV]
   cases aP (D6 ⟨fr,bl⟩) res <;> rfl
  | cell t size isAgg =>
   simp only [aBD,CS,aAS,ih,aP,D6,P7,YV,YU]
   cases S0 size isAgg (lk fr .any t) (lk bl none) with
   | none=>rfl
   | some q =>
    obtain ⟨v,wr⟩:=q
    simp only [Option.bind_some]
    cases aP (D6 ⟨fr,bl⟩) res <;> rfl
theorem aIB (k:List V->Option β):aBD fr bl [] k = k []:=rfl
def aEw (dst:Option Nat) (slots:List Nat) (cs vs:List V) (k:List (Nat × V)->Option β):Option β :=
 match vs with
 | [v]=>k (W1 dst v ++ slots.zip cs)
 | vs=>if vs.all V.noTup = true then k (W1 dst (.tup vs) ++ slots.zip cs) else none
theorem aEU (dst:Option Nat) (slots:List Nat) (cs:List V) (k:List (Nat × V)->Option β):aEw dst slots cs [] k = k (W1 dst (.tup []) ++ slots.zip cs):=rfl
theorem aDi (dst:Option Nat) (slots:List Nat) (cs:List V) (v u:V) (l:List V) (k:List (Nat × V)->Option β):aEw dst slots cs (v :: u :: l) k = if (v :: u :: l).all V.noTup = true then k (W1 dst (.tup (v :: u :: l)) ++ slots.zip cs) else none:=rfl
theorem aGD (d:Nat) (v:V) (l:List (Nat × V)):W1 (some d) v ++ l = (d,v) :: l:=rfl
theorem aIX:([]:List Nat).zip ([]:List V) = []:=rfl
theorem aFd (t:Nat) (v:V) (l:List Nat) (r:List V):(t :: l).zip (v :: r) = (t,v) :: l.zip r:=rfl
def ZN (b:Option aI) (k:List V->Option β):Option β:=match b with
 | some (.outer cs)=>k cs
 | _=>none
theorem aJs (cs:List V) (k:List V->Option β):ZN (some (.outer cs)) k = k cs:=rfl
def aIS (dst:Option Nat) (res:List yG) (id:Nat) (slots:List Nat) (fr:List (Nat × V)) (bl:List (Nat × Option aI)) (k:List (Nat × V)->List (Nat × Option aI)->Option β):Option β :=
 cY bl id fun b=>ZN b fun cs=>aBD fr bl res fun vs=>aEw dst slots cs vs fun fr'=>k fr' ((id,none) :: bl)
theorem aM8 (dst:Option Nat) (res:List yG) (id:Nat) (slots:List Nat) (k:List (Nat × V)->List (Nat × Option aI)->Option β):aIS dst res id slots fr bl k = cY bl id fun b=>ZN b fun cs=>aBD fr bl res fun vs=>aEw dst slots cs vs fun fr'=>k fr' ((id,none) :: bl):=rfl
theorem aAY (dst:Option Nat) (res:List yG) (id:Nat) (slots:List Nat) (k:St->Option β):(tZ dst res id slots ⟨fr,bl⟩).bind k = aIS dst res id slots fr bl fun fr' bl'=>k ⟨fr',bl'⟩:=by
 unfold tZ aIS cY
 rw [aIr]
 cases hb:lk bl none id with
 | none=>cases aP (D6 ⟨fr,bl⟩) res <;> rfl
 | some b =>
  cases b with
  | outer cs =>
   simp only [ZN,aMV]
   cases aP (D6 ⟨fr,bl⟩) res with
   | none=>rfl
   | some vs =>
    simp only [Option.bind_some]
    cases vs with
    | nil=>rfl
    | cons v vs=>cases vs with
     | nil=>rfl
     | cons u vs =>
      rw [aDi]
      show (if (v :: u :: vs).all V.noTup = true then some _ else none).bind k = _
      split <;> rfl
  | _=>cases aP (D6 ⟨fr,bl⟩) res <;> rfl
def aC7 (dst:Option Nat) (res:List yG) (id:Nat) (slots:List Nat) (k:Ex->St->Option β):Ex->St->Option β
 | .normal,s=>(tZ dst res id slots s).bind fun s4=>k .normal s4
 | .ret,s=>(tZ dst res id slots s).bind fun s4=>k .normal s4
 | .exit _,_=>none
theorem aJY (dst:Option Nat) (res:List yG) (id:Nat) (slots:List Nat) (k:Ex->St->Option β):aC7 dst res id slots k .normal ⟨fr,bl⟩ = aIS dst res id slots fr bl fun fr' bl'=>k .normal ⟨fr',bl'⟩:=aAY dst res id slots _
theorem aG9 (dst:Option Nat) (res:List yG) (id:Nat) (slots:List Nat) (k:Ex->St->Option β):aC7 dst res id slots k .ret ⟨fr,bl⟩ = aIS dst res id slots fr bl fun fr' bl'=>k .normal ⟨fr',bl'⟩:=aAY dst res id slots _
def N1 (keep:List Nat) (bl:List (Nat × Option aI)):List V->(List V->Option β)->Option β
 | [],k=>k []
 | v :: cs,k=>CA keep bl v fun v'=>N1 keep bl cs fun l=>k (v' :: l)
theorem aEL (keep:List Nat) (cs:List V):∀ (k:List V->Option β),N1 keep bl cs k = k (cs.map (NW keep (lk bl none))):=by
 induction cs with
 | nil=>intro k; rfl
 | cons v cs ih=>intro k; simp only [N1,CA,ih,List.map_cons]
theorem aCC (keep:List Nat) (k:List V->Option β):N1 keep bl [] k = k []:=rfl
theorem aAg (keep:List Nat) (v:V) (cs:List V) (k:List V->Option β):N1 keep bl (v :: cs) k = CA keep bl v fun v'=>N1 keep bl cs fun l=>k (v' :: l):=rfl
theorem ZH (keep:List Nat) (cs:List V) (k:Option aI->Option β):LI keep bl (some (.outer cs)) k = N1 keep bl cs fun l=>k (some (.outer l)):=by rw [aEL]; rfl
end
section
variable {β:Type} {T:CO} {d:Nat} {fr:List (Nat × V)} {bl:List (Nat × Option aI)} {k:V->Option β} {kw:V->List (Nat × Option aI)->Option β}
noncomputable def pJ (T:CO) (d:Nat) (bl:List (Nat × Option aI)) (f:Nat) (ds:List D) (k:V->Option β) (kw:V->List (Nat × Option aI)->Option β):Option β:=match call T f ds with
 | some (.own x es rs)=>if L6 x rs = true then P6 (tA d (lk bl none) [] (.own x es rs)) k kw else none
 | _=>none
theorem aFF (f:Nat) (args:List bS):AC T d (.calln f args) fr bl k kw = TD fr bl args fun ds _=>pJ T d bl f ds k kw:=by
 rw [rA,aBf]
 simp only [b9]
 cases aP (fun x=>lF (lk bl none) (bI (lk fr .any) x)) args with
 | none=>rfl
 | some ds =>
  simp only [Option.bind_some,pJ]
  cases call T f ds with
  | none=>rfl
  | some y =>
   cases y with
   | own x es rs=>simp only; split <;> rfl
   | _=>rfl
theorem aGw (f:Nat) (args:List bS) (k:List Nat->Option β):PR d (.calln f args) fr bl k = K1 fr bl args k:=by
 rw [YC]; rfl
theorem gV {x:D} {rs:List (List (List D))} (h1:aEt x = true) (h2:rs.all uX = true):L6 x rs = true:=by simp only [L6,h1,h2,Bool.and_self]
theorem o3 {r:List (List D)} {rs:List (List (List D))} (h1:uX r = true) (h2:rs.all uX = true):(r :: rs).all uX = true:=by simp only [List.all_cons,h1,h2,Bool.and_self]
theorem jA {α:Type} {f:Nat} {ds:List D} {o:Option α} {y:α->D} {p:Nat × Nat} {es:List (Nat × Nat)} {r:α->List (List D)} {rs:α->List (List (List D))} (h:call T f ds = o.map fun x=>.own (y x) (p :: es) (r x :: rs x)) (hn:∀ x,L6 (y x) (r x :: rs x) = true) :
  pJ T d bl f ds k kw = o.bind fun x=>aD1 bl (i5 d 0 (p :: es) (r x :: rs x)) (kw (thaw d (y x)) (i5 d 0 (p :: es) (r x :: rs x))):=by
 unfold pJ
 rw [h]
 cases o with
 | none=>rfl
 | some x =>
  simp only [Option.map_some,Option.bind_some,tA,aA0,hn x,if_true,List.append_nil]
  split
  ·obtain ⟨e,s⟩:=p; rfl
  ·rfl
end
end Vm
end Go.Proofs.Ytjjcaapdaldedaa
namespace Go.Proofs.Ytjjcaapdaldedaa
namespace Vm
open Go.RowKit
section
variable {β:Type} {T:CO} {d:Nat} {fr:List (Nat × V)} {bl:List (Nat × Option aI)} {k:V->Option β} {kw:V->List (Nat × Option aI)->Option β}
def aAk (b:Option aI) (x:Option β):Option β:=match b with
 | some (.box _)=>x
 | some (.fbox _)=>x
 | _=>none
theorem aEK (cs:List V) (x:Option β):aAk (some (.box cs)) x = x:=rfl
def aO7:Option aI->Bool
 | some (.box _)=>true
 | some (.fbox _)=>true
 | _=>false
theorem aIT (b:Option aI) (x:Option β):aAk b x = if aO7 b = true then x else none:=by
 cases b with
 | none=>rfl
 | some b=>cases b <;> rfl
def aIg (v:V) (bl:List (Nat × Option aI)) (k:V->Option β):Option β:=match v with
 | .ptr id off=>cY bl id fun b=>aAk b (k (.ptr id off))
 | _=>none
theorem aHV (id off:Nat):aIg (.ptr id off) bl k = cY bl id fun b=>aAk b (k (.ptr id off)):=rfl
def PD (fr:List (Nat × V)) (bl:List (Nat × Option aI)):List bS->(List V->Option β)->Option β
 | [],k=>k []
 | x :: l,k=>cJ fr x fun v=>aIg v bl fun u=>PD fr bl l fun us=>k (u :: us)
theorem aCQ (k:List V->Option β):PD fr bl [] k = k []:=rfl
theorem SR (x:bS) (l:List bS) (k:List V->Option β):PD fr bl (x :: l) k = cJ fr x fun v=>aIg v bl fun u=>PD fr bl l fun us=>k (u :: us):=rfl
theorem aLP (v:V):aIg v bl k = if RN (lk bl none) v = true then k v else none:=by
 cases v with
 | ptr id off =>
  show aAk (lk bl none id) (k (.ptr id off)) = if RN (lk bl none) (.ptr id off) = true then _ else _
  have:RN (lk bl none) (.ptr id off) = aO7 (lk bl none id):=by
   show (match lk bl none id with | some (.box _)=>true | some (.fbox _)=>true | _=>false) = aO7 (lk bl none id)
   cases lk bl none id with
   | none=>rfl
   | some b=>cases b <;> rfl
  rw [this]
  exact aIT _ _
 | _=>rfl
theorem aFZ (l:List bS):∀ (k:List V->Option β),PD fr bl l k = if (l.map (bI (lk fr .any))).all (RN (lk bl none)) = true then k (l.map (bI (lk fr .any))) else none:=by
 induction l with
 | nil=>intro k; rfl
 | cons x l ih =>
  intro k
  rw [SR]
  unfold cJ
  show aIg (bI (lk fr .any) x) bl (fun u=>PD fr bl l fun us=>k (u :: us)) = _
  rw [aLP,List.map_cons,List.all_cons]
  cases RN (lk bl none) (bI (lk fr .any) x) with
  | false=>rfl
  | true =>
   rw [if_pos rfl,ih,Bool.true_and]
theorem aFa (f:Nat) (caps:List bS):AC T d (.mkfnv f caps) fr bl k kw = PD fr bl caps fun vs=>k (.fn f vs):=by
 rw [aFZ]
 unfold AC
 simp only [b9]
 split
 ·rename_i h
  split at h
  ·cases h
  ·rename_i hc; rw [if_neg hc]
 ·rename_i v h
  split at h
  ·rename_i hc
   cases h
   rw [if_pos hc]
  ·cases h
 ·rename_i v p wr h
  split at h
  ·cases h
  ·cases h
def aHq (keep:List Nat) (id:Nat) (b:Option aI) (x y:Option β):Option β:=match b with
 | some (.box _)=>oP keep id x y
 | _=>y
theorem aJP (keep:List Nat) (id:Nat) (cs:List V) (x y:Option β):aHq keep id (some (.box cs)) x y = oP keep id x y:=rfl
def aKK (keep:List Nat) (id:Nat):Option aI->Bool
 | some (.box _)=>keep.contains id
 | _=>false
theorem aNh (keep:List Nat) (id:Nat) (b:Option aI) (x y:Option β):aHq keep id b x y = if aKK keep id b = true then x else y:=by
 cases b with
 | none=>rfl
 | some b=>cases b <;> rfl
def fnK (keep:List Nat) (bl:List (Nat × Option aI)):List V->Option β->Option β->Option β
 | [],x,_=>x
 | .ptr id _ :: l,x,y=>cY bl id fun b=>aHq keep id b (fnK keep bl l x y) y
 | _ :: _,_,y=>y
theorem aNx (keep:List Nat) (x y:Option β):fnK keep bl [] x y = x:=rfl
theorem aEc (keep:List Nat) (id off:Nat) (l:List V) (x y:Option β):fnK keep bl (.ptr id off :: l) x y = cY bl id fun b=>aHq keep id b (fnK keep bl l x y) y:=rfl
theorem aIf (keep:List Nat) (x y:Option β):∀ l:List V,fnK keep bl l x y = if l.all (aEr keep (lk bl none)) = true then x else y
 | []=>rfl
 | v :: l=>by
  rw [List.all_cons]
  cases v with
  | ptr id off =>
   rw [aEc]
   show aHq keep id (lk bl none id) (fnK keep bl l x y) y = _
   have:aEr keep (lk bl none) (.ptr id off) = aKK keep id (lk bl none id):=by
    show (match lk bl none id with | some (.box _)=>keep.contains id | _=>false) = aKK keep id (lk bl none id)
    cases lk bl none id with
    | none=>rfl
    | some b=>cases b <;> rfl
   rw [aNh,aIf keep x y l,this]
   cases aKK keep id (lk bl none id) <;> rfl
  | _=>rfl
theorem aJg (keep:List Nat) (f:Nat) (vs:List V):CA keep bl (.fn f vs) k = fnK keep bl vs (k (.fn f vs)) (k .any):=by
 rw [aIf]
 unfold CA
 simp only [NW,YN,y8]
 split <;> rfl
theorem aGI (keep:List Nat) (f:Nat) (vs cs:List V) (k:List V->Option β):EY keep bl (.fn f vs :: cs) k = CA keep bl (.fn f vs) fun v=>EY keep bl cs fun l=>k (v :: l):=by simp only [G1]; rfl
def U2 (f nc:Nat) (v:V) (k:List V->Option β):Option β:=(GQ f nc v).bind k
theorem aFY (f nc g:Nat) (vs:List V) (k:List V->Option β):U2 f nc (.fn g vs) k = if g = f ∧ vs.length = nc then k vs else none:=by
 unfold U2 GQ
 simp only
 split <;> rfl
def aQf (x:bS) (nc f:Nat) (args:List bS) (id:Nat) (slots:List Nat) (fr:List (Nat × V)) (bl:List (Nat × Option aI)) (k:List (Nat × V)->List (Nat × Option aI)->Option β):Option β :=
 cJ fr x fun v=>U2 f nc v fun caps=>cY bl id fun b=>lW b (LK fr slots fun cs=>PJ fr args fun vs=>k (xM 0 (vs ++ caps)) ((id,some (.outer cs)) :: bl))
def aPN (x:bS) (nc f:Nat) (args:List bS) (id:Nat) (slots:List Nat) (s:St) (k:List (Nat × V)->List (Nat × Option aI)->Option β):Option β:=aQf x nc f args id slots s.fr s.bl k
theorem aD2 (x:bS) (nc f:Nat) (args:List bS) (id:Nat) (slots:List Nat) (k:List (Nat × V)->List (Nat × Option aI)->Option β):aPN x nc f args id slots ⟨fr,bl⟩ k = cJ fr x fun v=>U2 f nc v fun caps=>cY bl id fun b=>lW b (LK fr slots fun cs=>PJ fr args fun vs=>k (xM 0 (vs ++ caps)) ((id,some (.outer cs)) :: bl)):=rfl
theorem aHs {k:Ex->St->Option β} (ops:List aT) (x:bS) (nc:Nat) (args:List bS) (dst:Option Nat) (f:Nat) (body:aD) (res:List yG) (id:Nat) (slots:List Nat) (s:St) :
  bD T (.inlv ops x nc args dst f body res id slots) s k = AA T ops s fun s1=>(GQ f nc (bI s1.get x)).bind fun caps=>(JB (args.map (bI s1.get) ++ caps) id slots s1).bind fun s2=>bD T body s2 fun ex s3=>match ex with
   | .exit _=>none
   | _=>(tZ dst res id slots s3).bind fun s4=>k .normal s4:=by
 unfold bD AA
 rw [aNu]
 cases oI (call T) ops s with
 | none=>rfl
 | some s1 =>
  simp only [Option.bind_some]
  cases GQ f nc (bI s1.get x) with
  | none=>rfl
  | some caps =>
   simp only [Option.bind_some]
   cases JB (args.map (bI s1.get) ++ caps) id slots s1 with
   | none=>rfl
   | some s2 =>
    simp only [Option.bind_some]
    cases ev T body s2 with
    | none=>rfl
    | some q =>
     obtain ⟨e,s3⟩:=q
     cases e with
     | normal=>simp only [Option.bind_some]; cases tZ dst res id slots s3 <;> rfl
     | exit i=>rfl
     | ret=>simp only [Option.bind_some]; cases tZ dst res id slots s3 <;> rfl
theorem aHS {k:Ex->St->Option β} (ops:List aT) (x:bS) (nc:Nat) (args:List bS) (dst:Option Nat) (f:Nat) (body:aD) (res:List yG) (id:Nat) (slots:List Nat) :
  bD T (.inlv ops x nc args dst f body res id slots) ⟨fr,bl⟩ k = AA T ops ⟨fr,bl⟩ fun s1=>aPN x nc f args id slots s1 fun fr' bl'=>bD T body ⟨fr',bl'⟩ (aC7 dst res id slots k):=by
 rw [aHs]
 congr 1
 funext s1
 obtain ⟨fr1,bl1⟩:=s1
 rw [aD2]
 unfold cJ U2
 show (GQ f nc (bI (lk fr1 .any) x)).bind _ = (GQ f nc (bI (lk fr1 .any) x)).bind _
 congr 1
 funext caps
 unfold JB cY lW
 rw [aIr]
 cases hb:lk bl1 none id with
 | some b=>rfl
 | none =>
  simp only [Option.isNone_none,if_true,Option.bind_some,aFP,aA9]
  congr 1
  funext ex s3
  cases ex <;> rfl
end
end Vm
end Go.Proofs.Ytjjcaapdaldedaa
