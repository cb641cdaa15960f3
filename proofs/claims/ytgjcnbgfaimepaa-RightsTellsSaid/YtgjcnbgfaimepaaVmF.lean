/- The small machine, read from the front: slices that are laid out, calls, masks, answers. The small machine, read from the front: regions whose order is drawn. The small machine, read from the front: slices that are lent, cut, cleared. The small machine, read from the front: function values that hold boxes. slices.Clone: what it is told to answer. -/
import Derived.Test.YtgjcnbgfaimepaaVmE
namespace Go.Proofs.Ytgjcnbgfaimepaa
section
theorem zA.{u} {α:Type u} {a:α} {l:List α}:(a::l).length = l.length + 1:=rfl
theorem zB.{u} {α:Type u}:([]:List α).length = 0:=rfl
theorem zC:(!true) = false:=rfl
theorem zD:(!false) = true:=rfl
theorem zE.{u} {α:Type u} {n:Nat} {a:α}:List.replicate (n + 1) a = a::List.replicate n a:=rfl
theorem zF.{u} {α:Type u} {a:α}:List.replicate 0 a = []:=rfl
theorem zG.{u,v} {α:Type u} {β:Type v} (a:α) (f:α->Option β):(some a).bind f = f a:=rfl
theorem zH.{u,v} {α:Type u} {β:Type v} (a:α) (f:α->β):(some a).map f = some (f a):=rfl
theorem zI.{u,v} {α:Type u} {β:Type v} (f:α->β):(none:Option α).map f = none:=rfl
theorem zJ.{u,v,w} {α:Type u} {β:Type v} {γ:Sort w} (f:α->γ) (g:β->γ) (x:α):Sum.elim f g (Sum.inl x) = f x:=rfl
theorem zK.{u,v,w} {α:Type u} {β:Type v} {γ:Sort w} (f:α->γ) (g:β->γ) (x:β):Sum.elim f g (Sum.inr x) = g x:=rfl
theorem zL.{u,v,w} {α:Type u} {β:Type v} {γ:Type w} (x:Option α) (f:α->Option β) (g:β->Option γ):(x.bind f).bind g = x.bind fun y=>(f y).bind g:=Ĩ x f g
theorem zM.{u} {α:Type u} [BEq α] [ReflBEq α] (a:α):(a == a) = true:=beq_self_eq_true a
theorem zN:(¬False) = True:=not_false_eq_true
namespace Vm
open Go.RowKit
section
variable {β:Type} {T:CJ} {d:Nat} {fr:List (Nat × V)} {bl:List (Nat × Option aL)} {k:V->Option β} {kw:V->List (Nat × Option aL)->Option β}
def GD (bl:List (Nat × Option aL)):List V->(List D->List (Nat × Option aL)->Option β)->Option β
 | [],k=>k [] []
 | v :: cs,k=>(pE (lk bl none) v).bind fun x=>GD bl cs fun ds f=>k (x :: ds) (JF (lk bl none) v ++ f)
theorem aCO (cs:List V) (k:List D->List (Nat × Option aL)->Option β):GD bl cs k = (aM (pE (lk bl none)) cs).bind fun ds=>k ds (cs.flatMap (JF (lk bl none))):=by
 induction cs generalizing k with
 | nil=>rfl
 | cons v cs ih =>
  simp only [GD,aM,ih,ÿ]
  cases pE (lk bl none) v with
  | none=>rfl
  | some x=>cases aM (pE (lk bl none)) cs <;> rfl
def d1K (v:V) (bl:List (Nat × Option aL)) (k:D->List (Nat × Option aL)->Option β):Option β:=(pE (lk bl none) v).bind fun x=>k x (JF (lk bl none) v)
def d1B (id ver:Nat) (b:Option aL) (k:D->List (Nat × Option aL)->Option β):Option β:=match b with
 | some (.rows v _ _ rows)=>if ver = v then k (.sl rows) [(id,some (.froz v rows))] else none
 | some (.froz v rows)=>if ver = v then k (.sl rows) [] else none
 | _=>none
theorem aOu (id ver:Nat) (k:D->List (Nat × Option aL)->Option β):d1K (.own id ver) bl k = cG bl id fun b=>d1B id ver b k:=by
 unfold d1K cG d1B
 simp only [pE,JF,AB,TY]
 generalize lk bl none id = b
 cases b with
 | none=>rfl
 | some b=>cases b with
  | rows v e s rows=>simp only; by_cases h:ver = v <;> simp [h]
  | froz v rows=>simp only; by_cases h:ver = v <;> simp [h]
  | _=>rfl
theorem aLn (id v e s:Nat) (rows:List (List D)) (k:D->List (Nat × Option aL)->Option β):d1B id v (some (.rows v e s rows)) k = k (.sl rows) [(id,some (.froz v rows))]:=Á rfl
def H9 (bl:List (Nat × Option aL)):List V->(List D->List (Nat × Option aL)->Option β)->Option β
 | [],k=>k [] []
 | v :: cs,k=>(AB (lk bl none) v).bind fun x=>H9 bl cs fun ds f=>k (x :: ds) (TY (lk bl none) v ++ f)
theorem aIT (cs:List V) (k:List D->List (Nat × Option aL)->Option β):H9 bl cs k = (aM (AB (lk bl none)) cs).bind fun ds=>k ds (cs.flatMap (TY (lk bl none))):=by
 induction cs generalizing k with
 | nil=>rfl
 | cons v cs ih =>
  simp only [H9,aM,ih,ÿ]
  cases AB (lk bl none) v with
  | none=>rfl
  | some x=>cases aM (AB (lk bl none)) cs <;> rfl
theorem aFr (k:List D->List (Nat × Option aL)->Option β):H9 bl [] k = k [] []:=rfl
theorem aLD (x:D) (cs:List V) (k:List D->List (Nat × Option aL)->Option β):H9 bl (.d x :: cs) k = H9 bl cs fun ds f=>k (x :: ds) f:=rfl
theorem aFI (id ver:Nat) (cs:List V) (k:List D->List (Nat × Option aL)->Option β):H9 bl (.own id ver :: cs) k = d1K (.own id ver) bl fun x g=>H9 bl cs fun ds f=>k (x :: ds) (g ++ f):=rfl
def d1P (id off:Nat) (b:Option aL) (bl:List (Nat × Option aL)) (k:D->List (Nat × Option aL)->Option β):Option β:=match b with
 | some (.box cs)=>H9 bl cs fun ds f=>k (.ptr ds off) ((id,some (.fbox ds)) :: f)
 | some (.fbox ds)=>k (.ptr ds off) []
 | _=>none
theorem aOR (id off:Nat) (k:D->List (Nat × Option aL)->Option β):d1K (.ptr id off) bl k = cG bl id fun b=>d1P id off b bl k:=by
 unfold d1K cG d1P
 simp only [pE,JF]
 cases lk bl none id with
 | none=>rfl
 | some b=>cases b with
  | box cs =>
   simp only [aIT]
   cases aM (AB (lk bl none)) cs <;> rfl
  | _=>rfl
theorem aNY (id off:Nat) (c:V) (cs:List V) (k:D->List (Nat × Option aL)->Option β):d1P id off (some (.box (c :: cs))) bl k = H9 bl (c :: cs) fun ds f=>k (.ptr ds off) ((id,some (.fbox ds)) :: f):=rfl
theorem aIa (k:List D->List (Nat × Option aL)->Option β):GD bl [] k = k [] []:=rfl
theorem aPR (x:D) (cs:List V) (k:List D->List (Nat × Option aL)->Option β):GD bl (.d x :: cs) k = GD bl cs fun ds f=>k (x :: ds) f:=rfl
theorem aOi (cs:List V) (k:List D->List (Nat × Option aL)->Option β):GD bl (.nil :: cs) k = GD bl cs fun ds f=>k (.sl [] :: ds) f:=rfl
theorem aIW (id ver:Nat) (cs:List V) (k:List D->List (Nat × Option aL)->Option β):GD bl (.own id ver :: cs) k = d1K (.own id ver) bl fun x g=>GD bl cs fun ds f=>k (x :: ds) (g ++ f):=rfl
theorem UG (ds:List D) (k:List D->List (Nat × Option aL)->Option β):GD bl (fL ds) k = k ds []:=by
 have:∀ (ds:List D) (k:List D->List (Nat × Option aL)->Option β),GD bl (fL ds) k = k ds []:=by
  intro ds
  induction ds with
  | nil=>intro k; rfl
  | cons x ds ih=>intro k; show GD bl (fL ds) _ = _; rw [ih]; rfl
 exact this ds k
def JV (v:V) (bl:List (Nat × Option aL)) (k:D->List (Nat × Option aL)->Option β):Option β:=(lG (lk bl none) v).bind fun x=>k x (CI (lk bl none) v)
theorem aQT (x:D) (k:D->List (Nat × Option aL)->Option β):JV (.d x) bl k = k x []:=rfl
theorem aKJ (k:D->List (Nat × Option aL)->Option β):JV .nil bl k = k (.sl []) []:=rfl
theorem aKj (id ver:Nat) (k:D->List (Nat × Option aL)->Option β):JV (.own id ver) bl k = d1K (.own id ver) bl k:=rfl
theorem aDQ (cs:List V) (k:D->List (Nat × Option aL)->Option β):JV (.agg cs) bl k = GD bl cs fun ds f=>k (.agg ds) f:=by
 rw [aCO]
 show ((aM (pE (lk bl none)) cs).map D.agg).bind _ = _
 cases aM (pE (lk bl none)) cs <;> rfl
theorem aIA (ds:List D) (k:D->List (Nat × Option aL)->Option β):JV (zZ ds) bl k = k (.agg ds) []:=by
 show JV (.agg (fL ds)) bl k = _
 rw [aDQ,UG]
theorem aRO (x:D) (k:List D->List (Nat × Option aL)->Option β):W7 (.d x) bl k = k [x] []:=rfl
theorem aCE (cs:List V) (k:List D->List (Nat × Option aL)->Option β):W7 (.agg cs) bl k = GD bl cs k:=by
 rw [aCO]
 show (match aM (pE (lk bl none)) cs with | some row=>k row (cs.flatMap (JF (lk bl none))) | none=>none) = _
 cases aM (pE (lk bl none)) cs <;> rfl
theorem aHL (ds:List D) (k:List D->List (Nat × Option aL)->Option β):W7 (zZ ds) bl k = k ds []:=by
 show W7 (.agg (fL ds)) bl k = _
 rw [aCE,UG]
theorem aMs (k:List D->List (Nat × Option aL)->Option β):W7 .nil bl k = k [.sl []] []:=rfl
theorem aLR (id ver:Nat) (k:List D->List (Nat × Option aL)->Option β):W7 (.own id ver) bl k = d1K (.own id ver) bl fun x f=>k [x] f:=by
 unfold W7 d1K
 show (match aM (pE (lk bl none)) [.own id ver] with | some row=>k row (JF (lk bl none) (.own id ver)) | none=>none) = _
 simp only [aM]
 cases pE (lk bl none) (.own id ver) <;> rfl
def aCY (rs:List (List D)) (i:Nat) (row:List D) (k:List (List D)->Option β):Option β:=if i < rs.length then k (rs.set i row) else none
theorem aQJ (r:List D) (rs:List (List D)) (row:List D) (k:List (List D)->Option β):aCY (r :: rs) 0 row k = k (row :: rs):=by simp [aCY]
theorem aRu (r:List D) (rs:List (List D)) (i:Nat) (row:List D) (k:List (List D)->Option β):aCY (r :: rs) (i + 1) row k = aCY rs i row fun l=>k (r :: l):=by
 unfold aCY
 simp only [ï,List.set_cons_succ]
 by_cases h:i < rs.length
 ·rw [Á h,Á (by omega)]
 ·rw [Ã h,Ã (by omega)]
def bsF (fr:List (Nat × V)) (bl:List (Nat × Option aL)) (size:Nat) (rs:List (List D)):List (Nat × d7)->List (Nat × Option aL)->(List (List D)->List (Nat × Option aL)->Option β)->Option β
 | [],wr,k=>k rs wr
 | (i,x) :: r,wr,k=>fA fr x fun v=>W7 v bl fun row f=>CQ row size (aCY rs i row fun rs'=>bsF fr bl size rs' r (wr ++ f) k)
theorem aNu (size:Nat) (rs:List (List D)) (wr:List (Nat × Option aL)) (k:List (List D)->List (Nat × Option aL)->Option β):bsF fr bl size rs [] wr k = k rs wr:=rfl
theorem aMe (size:Nat) (rs:List (List D)) (i:Nat) (x:d7) (r:List (Nat × d7)) (wr:List (Nat × Option aL)) (k:List (List D)->List (Nat × Option aL)->Option β):bsF fr bl size rs ((i,x) :: r) wr k = fA fr x fun v=>W7 v bl fun row f=>CQ row size (aCY rs i row fun rs'=>bsF fr bl size rs' r (wr ++ f) k):=rfl
theorem aQZ (size:Nat) (parts:List (Nat × d7)):∀ (rs:List (List D)) (wr:List (Nat × Option aL)) (k:List (List D)->List (Nat × Option aL)->Option β),bsF fr bl size rs parts wr k = (pN (lk bl none) size rs (parts.map fun p=>(p.1,cZ (lk fr .any) p.2))).bind fun rs'=>k rs' (wr ++ parts.flatMap fun p=>CI (lk bl none) (cZ (lk fr .any) p.2)):=by
 induction parts with
 | nil=>intro rs wr k; simp [bsF,pN]
 | cons p r ih =>
  intro rs wr k
  obtain ⟨i,x⟩:=p
  simp only [bsF,fA,W7,ø,pN,ÿ]
  cases aM (pE (lk bl none)) (cZ (lk fr .any) x).cells with
  | none=>rfl
  | some row =>
   simp only [CQ,aCY]
   by_cases h1:row.length = size
   ·by_cases h2:i < rs.length
    ·rw [Á h1,Á h2,Á ⟨h1,h2⟩,ih,è]
    ·rw [Á h1,Ã h2,Ã (fun q=>h2 q.2)]; rfl
   ·rw [Ã h1,Ã (fun q=>h1 q.1)]; rfl
theorem X6 (e size n:Nat) (z:List D) (parts:List (Nat × d7)):FS T d (.buildSlice e size z n parts) fr bl k kw = cG bl d fun b=>jX b (bsF fr bl size (List.replicate n z) parts [] fun rows wr=>SB e rows fun rows=>kw (.own d 0) ((d,some (.rows 0 e size rows)) :: wr)):=by
 rw [sS]
 unfold cG jX SB
 simp only [iB,aQZ,Đ]
 cases lk bl none d with
 | some b=>rfl
 | none =>
  simp only
  have e1:(parts.map fun x=>match x with | (i,x)=>(i,cZ (lk fr .any) x)) = parts.map fun p=>(p.1,cZ (lk fr .any) p.2):=rfl
  have e2:(parts.flatMap fun x=>match x with | (_,x)=>CI (lk bl none) (cZ (lk fr .any) x)) = parts.flatMap fun p=>CI (lk bl none) (cZ (lk fr .any) p.2):=rfl
  rw [e1,e2]
  cases pN (lk bl none) size (List.replicate n z) (parts.map fun p=>(p.1,cZ (lk fr .any) p.2)) <;> rfl
theorem aAk {α:Type} (e size bytes:Nat) (z:List D) (c:α->List D) (x:α) (hz:z = c x) (l cp:d7):FS T d (.makeSlice e size bytes z l cp) fr bl k kw = cG bl d fun b=>jX b (fA fr l fun a=>fA fr cp fun b=>match a,b with
   | .d (.int _ n),.d (.int _ m)=>if 0 <= n ∧ n <= m ∧ (bytes:Int) * m <= 281474976710656 ∧ m <= 9223372036854775807 then kw (.own d 0) [(d,some (.rows 0 e size (cM c (List.replicate n.toNat x))))] else none
   | _,_=>none):=by
 subst hz
 rw [sS]
 unfold cG jX fA
 simp only [iB,aCc]
 generalize cZ (lk fr .any) l = a
 generalize cZ (lk fr .any) cp = b
 cases lk bl none d with
 | some b=>rfl
 | none =>
  simp only
  split
  ·rename_i n _ m
   simp only
   by_cases h:0 <= n ∧ n <= m ∧ (bytes:Int) * m <= 281474976710656 ∧ m <= 9223372036854775807
   ·rw [Á h,Á h]; rfl
   ·rw [Ã h,Ã h]; rfl
  ·rename_i h
   split
   ·rename_i n _ m
    exact absurd rfl (h _ _ _ _ rfl)
   ·rfl
def V4 (fr:List (Nat × V)) (bl:List (Nat × Option aL)):List d7->(List D->List (Nat × Option aL)->Option β)->Option β
 | [],k=>k [] []
 | x :: l,k=>fA fr x fun v=>JV v bl fun y f=>V4 fr bl l fun ds g=>k (y :: ds) (f ++ g)
theorem aIO (k:List D->List (Nat × Option aL)->Option β):V4 fr bl [] k = k [] []:=rfl
theorem aEy (x:d7) (l:List d7) (k:List D->List (Nat × Option aL)->Option β):V4 fr bl (x :: l) k = fA fr x fun v=>JV v bl fun y f=>V4 fr bl l fun ds g=>k (y :: ds) (f ++ g):=rfl
theorem aCN (l:List d7) (k:List D->List (Nat × Option aL)->Option β):V4 fr bl l k = (aM (fun x=>lG (lk bl none) (cZ (lk fr .any) x)) l).bind fun ds=>k ds (l.flatMap fun x=>CI (lk bl none) (cZ (lk fr .any) x)):=by
 induction l generalizing k with
 | nil=>rfl
 | cons x l ih =>
  simp only [V4,fA,JV,aM,ih,ÿ]
  cases lG (lk bl none) (cZ (lk fr .any) x) with
  | none=>rfl
  | some y=>cases aM (fun x=>lG (lk bl none) (cZ (lk fr .any) x)) l <;> rfl
def fzK (fz:List (Nat × Option aL)) (v:V) (k:V->Option β) (kw:V->List (Nat × Option aL)->Option β):Option β:=match fz with
 | []=>k v
 | p :: w=>kw v (p :: w)
theorem aNc (v:V):fzK [] v k kw = k v:=rfl
theorem aRz (l:List (Nat × Option aL)) (v:V):fzK ([] ++ l) v k kw = fzK l v k kw:=rfl
theorem aRi (p:Nat × Option aL) (w l:List (Nat × Option aL)) (v:V):fzK ((p :: w) ++ l) v k kw = kw v ((p :: w) ++ l):=rfl
noncomputable def B0 (T:CJ) (d:Nat) (bl:List (Nat × Option aL)) (f:Nat) (ds:List D) (fz:List (Nat × Option aL)) (k:V->Option β) (kw:V->List (Nat × Option aL)->Option β):Option β:=match call T f ds with
 | none=>none
 | some r=>TG (uJ d (lk bl none) fz r) k kw
theorem aJ6 (f:Nat) (args:List d7):FS T d (.call f args) fr bl k kw = V4 fr bl args fun ds fz=>B0 T d bl f ds fz k kw:=by
 rw [sS,aCN]
 simp only [iB]
 cases aM (fun x=>lG (lk bl none) (cZ (lk fr .any) x)) args with
 | none=>rfl
 | some ds =>
  simp only [À,B0]
  cases call T f ds <;> rfl
def D.calm:D->Bool
 | .own _ _ _=>false
 | _=>true
theorem aGe {x:D} (h:x.calm = true):∀ y es rs,x ≠ .own y es rs:=fun y es rs e=>by rw [e] at h; cases h
theorem aHf {x:D} (h:PF x = true):x.calm = true:=by cases x <;> first | rfl | cases h
theorem aE6 {α:Type} {f:Nat} {ds:List D} {o:Option α} {enc:α->D} (h:call T f ds = o.map enc) (hf:∀ x,PF (enc x) = true) (fz:List (Nat × Option aL)):B0 T d bl f ds fz k kw = o.bind fun x=>k (toV (enc x)):=by
 unfold B0
 rw [h]
 cases o with
 | none=>rfl
 | some x=>simp only [ä,À]; rw [MN (aGe (aHf (hf x))),Á (hf x)]; rfl
theorem aFG {α:Type} {f:Nat} {ds:List D} {o:Option α} {enc:α->D} (h:call T f ds = o.map enc) (hf:∀ x,PF (enc x) = false) (hc:∀ x,(enc x).calm = true) (fz:List (Nat × Option aL)):B0 T d bl f ds fz k kw = o.bind fun x=>fzK fz (toV (enc x)) k kw:=by
 unfold B0
 rw [h]
 cases o with
 | none=>rfl
 | some x=>simp only [ä,À]; rw [MN (aGe (hc x)),Ã (by rw [hf x]; decide)]; cases fz <;> rfl
def aDJ (bl:List (Nat × Option aL)):List (Nat × Option aL)->Option β->Option β
 | [],x=>x
 | (i,_) :: l,x=>cG bl i fun b=>jX b (aDJ bl l x)
theorem YV (bl:List (Nat × Option aL)) (x:Option β):∀ (l:List (Nat × Option aL)),aDJ bl l x = if UM (lk bl none) l = true then x else none
 | []=>rfl
 | (i,b) :: l=>by
  cases h:lk bl none i <;> simp [aDJ,UM,cG,jX,YV bl x l,h]
theorem D0 {α:Type} {f:Nat} {ds:List D} {o:Option α} {y:α->D} {p:Nat × Nat} {es:List (Nat × Nat)} {r:α->List (List D)} {rs:α->List (List (List D))} (h:call T f ds = o.map fun x=>.own (y x) (p :: es) (r x :: rs x)) (fz:List (Nat × Option aL)) :
  B0 T d bl f ds fz k kw = o.bind fun x=>aDJ bl (i9 d 0 (p :: es) (r x :: rs x)) (kw (thaw d (y x)) (i9 d 0 (p :: es) (r x :: rs x) ++ fz)):=by
 unfold B0
 rw [h]
 cases o with
 | none=>rfl
 | some x =>
  simp only [ä,À,uJ,YV]
  split
  ·obtain ⟨e,s⟩:=p; rfl
  ·rfl
def YU (fr:List (Nat × V)) (bl:List (Nat × Option aL)):List d7->(List D->List (Nat × Option aL)->Option β)->Option β
 | [],k=>k [] []
 | x :: l,k=>fA fr x fun v=>d1K v bl fun y f=>YU fr bl l fun ds g=>k (y :: ds) (f ++ g)
theorem aIj (k:List D->List (Nat × Option aL)->Option β):YU fr bl [] k = k [] []:=rfl
theorem aEG (x:d7) (l:List d7) (k:List D->List (Nat × Option aL)->Option β):YU fr bl (x :: l) k = fA fr x fun v=>d1K v bl fun y f=>YU fr bl l fun ds g=>k (y :: ds) (f ++ g):=rfl
theorem aLg (l:List d7) (k:List D->List (Nat × Option aL)->Option β):YU fr bl l k = (aM (fun x=>pE (lk bl none) (cZ (lk fr .any) x)) l).bind fun ds=>k ds (l.flatMap fun x=>JF (lk bl none) (cZ (lk fr .any) x)):=by
 induction l generalizing k with
 | nil=>rfl
 | cons x l ih =>
  simp only [YU,fA,d1K,aM,ih,ÿ]
  cases pE (lk bl none) (cZ (lk fr .any) x) with
  | none=>rfl
  | some y=>cases aM (fun x=>pE (lk bl none) (cZ (lk fr .any) x)) l <;> rfl
theorem aK0 (f:Nat) (caps:List d7):FS T d (.mkfn f caps) fr bl k kw = YU fr bl caps fun ds fz=>fzK fz (.d (.fn f ds)) k kw:=by
 rw [sS,aLg]
 simp only [iB]
 cases aM (fun x=>pE (lk bl none) (cZ (lk fr .any) x)) caps with
 | none=>rfl
 | some ds =>
  simp only [À]
  cases caps.flatMap fun x=>JF (lk bl none) (cZ (lk fr .any) x) <;> rfl
def V1 (fr:List (Nat × V)) (bl:List (Nat × Option aL)) (caps:List D):List d7->(List D->List (Nat × Option aL)->Option β)->Option β
 | [],k=>k caps []
 | x :: l,k=>fA fr x fun v=>JV v bl fun y f=>V1 fr bl caps l fun ds g=>k (y :: ds) (f ++ g)
theorem aJf (caps:List D) (k:List D->List (Nat × Option aL)->Option β):V1 fr bl caps [] k = k caps []:=rfl
theorem aFn (caps:List D) (x:d7) (l:List d7) (k:List D->List (Nat × Option aL)->Option β):V1 fr bl caps (x :: l) k = fA fr x fun v=>JV v bl fun y f=>V1 fr bl caps l fun ds g=>k (y :: ds) (f ++ g):=rfl
theorem aLh (caps:List D) (l:List d7) (k:List D->List (Nat × Option aL)->Option β):V1 fr bl caps l k = (aM (fun x=>lG (lk bl none) (cZ (lk fr .any) x)) l).bind fun ds=>k (ds ++ caps) (l.flatMap fun x=>CI (lk bl none) (cZ (lk fr .any) x)):=by
 induction l generalizing k with
 | nil=>rfl
 | cons x l ih =>
  simp only [V1,fA,JV,aM,ih,ÿ]
  cases lG (lk bl none) (cZ (lk fr .any) x) with
  | none=>rfl
  | some y=>cases aM (fun x=>lG (lk bl none) (cZ (lk fr .any) x)) l <;> rfl
noncomputable def aE5 (T:CJ) (d:Nat) (v:V) (args:List d7) (fr:List (Nat × V)) (bl:List (Nat × Option aL)) (k:V->Option β) (kw:V->List (Nat × Option aL)->Option β):Option β:=match v with
 | .d (.fn f caps)=>V1 fr bl caps args fun ds fz=>B0 T d bl f ds fz k kw
 | _=>none
theorem aKZ (f:Nat) (caps:List D) (args:List d7):aE5 T d (.d (.fn f caps)) args fr bl k kw = V1 fr bl caps args fun ds fz=>B0 T d bl f ds fz k kw:=rfl
theorem aIU (g:d7) (args:List d7):FS T d (.callv g args) fr bl k kw = fA fr g fun v=>aE5 T d v args fr bl k kw:=by
 rw [sS]
 unfold fA
 simp only [iB]
 generalize cZ (lk fr .any) g = v
 cases v with
 | d x=>cases x with
  | fn f caps =>
   simp only [aE5,aLh]
   cases aM (fun x=>lG (lk bl none) (cZ (lk fr .any) x)) args with
   | none=>rfl
   | some ds =>
    simp only [À,B0]
    cases call T f (ds ++ caps) <;> rfl
  | _=>rfl
 | _=>rfl
def aRS (v:V) (i:Nat) (k:V->Option β):Option β:=match v with
 | .tup vs=>PG vs i k
 | _=>none
theorem aDv (x:d7) (i:Nat):FS T d (.extract x i) fr bl k kw = fA fr x fun v=>aRS v i k:=by
 unfold FS fA
 simp only [iB]
 generalize cZ (lk fr .any) x = v
 cases v with
 | tup vs=>simp only [aRS,XW]; cases vs[i]? <;> rfl
 | _=>rfl
theorem aRN (vs:List V) (i:Nat):aRS (.tup vs) i k = PG vs i k:=rfl
def EH (m:BE) (fr:List (Nat × V)) (bl:List (Nat × Option aL)) (k:List (Nat × V)->List (Nat × Option aL)->Option β):Option β:=k (m.app ⟨fr,bl⟩).fr (m.app ⟨fr,bl⟩).bl
theorem aOj {k:Ex->St->Option β} (m:BE) (a:aH):bD T (.pre m a) ⟨fr,bl⟩ k = EH m fr bl fun fr' bl'=>bD T a ⟨fr',bl'⟩ k:=by
 rw [aO5]; rfl
theorem aPL {k:Ex->St->Option β} (m:BE):aEf m k .normal ⟨fr,bl⟩ = EH m fr bl fun fr' bl'=>k .normal ⟨fr',bl'⟩:=by
 rw [aNF]; rfl
def GZ (keep:List Nat) (bl:List (Nat × Option aL)) (v:V) (k:V->Option β):Option β:=k (RJ keep (lk bl none) v)
def YT (keep:List Nat) (fr:List (Nat × V)) (bl:List (Nat × Option aL)):List Nat->(List (Nat × V)->Option β)->Option β
 | [],k=>k []
 | t :: r,k=>rK fr t fun v=>GZ keep bl v fun v'=>YT keep fr bl r fun l=>k ((t,v') :: l)
theorem aLL (keep l:List Nat):∀ (k:List (Nat × V)->Option β),YT keep fr bl l k = k (l.map fun t=>(t,RJ keep (lk bl none) (lk fr .any t))):=by
 induction l with
 | nil=>intro k; rfl
 | cons t l ih=>intro k; simp only [YT,rK,GZ,ih,ø]
def MR (keep:List Nat) (bl:List (Nat × Option aL)) (b:Option aL) (k:Option aL->Option β):Option β:=k (b.bind (HZ keep (lk bl none)))
def YD (keep:List Nat) (bl:List (Nat × Option aL)):List Nat->(List (Nat × Option aL)->Option β)->Option β
 | [],k=>k []
 | i :: r,k=>cG bl i fun b=>MR keep bl b fun b'=>YD keep bl r fun l=>k ((i,b') :: l)
theorem aJx (keep l:List Nat):∀ (k:List (Nat × Option aL)->Option β),YD keep bl l k = k (l.map fun i=>(i,(lk bl none i).bind (HZ keep (lk bl none)))):=by
 induction l with
 | nil=>intro k; rfl
 | cons t l ih=>intro k; simp only [YD,cG,MR,ih,ø]
theorem aHE (keep:List Nat) (k:List (Nat × V)->Option β):YT keep fr bl [] k = k []:=rfl
theorem aEJ (keep:List Nat) (t:Nat) (r:List Nat) (k:List (Nat × V)->Option β):YT keep fr bl (t :: r) k = rK fr t fun v=>GZ keep bl v fun v'=>YT keep fr bl r fun l=>k ((t,v') :: l):=rfl
theorem aIK (keep:List Nat) (k:List (Nat × Option aL)->Option β):YD keep bl [] k = k []:=rfl
theorem aEw (keep:List Nat) (i:Nat) (r:List Nat) (k:List (Nat × Option aL)->Option β):YD keep bl (i :: r) k = cG bl i fun b=>MR keep bl b fun b'=>YD keep bl r fun l=>k ((i,b') :: l):=rfl
theorem aP3 (live keep:List Nat) (k:List (Nat × V)->List (Nat × Option aL)->Option β):EH ⟨live,keep,[],[],[],[]⟩ fr bl k = YT keep fr bl live fun fr'=>YD keep bl keep fun bl'=>k fr' bl':=by
 rw [aLL,aJx]; rfl
def oH (keep:List Nat) (i:Nat) (x y:Option β):Option β:=if keep.contains i = true then x else y
theorem Z1 (i:Nat) (x y:Option β):oH [] i x y = y:=rfl
theorem aAp (i:Nat) (r:List Nat) (x y:Option β):oH (i :: r) i x y = x:=by simp [oH]
theorem ZW (a i:Nat) (r:List Nat) (x y:Option β) (h:(i == a) = false):oH (a :: r) i x y = oH r i x y:=by
 unfold oH
 rw [List.contains_cons,h,Bool.false_or]
section
variable (keep:List Nat)
theorem aP9 (x:D):GZ keep bl (.d x) k = k (.d x):=rfl
theorem aJo:GZ keep bl .nil k = k .nil:=rfl
def aCd (keep:List Nat) (id off:Nat) (b:Option aL) (k:V->Option β):Option β:=match b with
 | some (.box _)=>oH keep id (k (.ptr id off)) (k .any)
 | some (.fbox ds)=>k (.d (.ptr ds off))
 | _=>k .any
theorem aEz (id off:Nat) (cs:List V):aCd keep id off (some (.box cs)) k = oH keep id (k (.ptr id off)) (k .any):=rfl
theorem aC1 (id off:Nat) (ds:List D):aCd keep id off (some (.fbox ds)) k = k (.d (.ptr ds off)):=rfl
theorem aIM (id off:Nat):GZ keep bl (.ptr id off) k = cG bl id fun b=>aCd keep id off b k:=by
 unfold GZ cG aCd
 simp only [RJ,aAD,DC]
 generalize lk bl none id = b
 cases b with
 | none=>rfl
 | some b=>cases b with
  | box cs=>simp only [oH]; split <;> rfl
  | _=>rfl
def Y6 (id ver:Nat) (b:Option aL) (k:V->Option β):Option β:=match b with
 | some (.rows v _ _ _)=>if (ver == v) = true then oH keep id (k (.own id 0)) (k .any) else k .any
 | some (.froz v rows)=>if ver = v then k (.d (.sl rows)) else k .any
 | _=>k .any
theorem aIi (id ver:Nat):GZ keep bl (.own id ver) k = cG bl id fun b=>Y6 keep id ver b k:=by
 unfold GZ cG Y6 oH
 simp only [RJ,aAD,DC]
 generalize lk bl none id = b
 cases b with
 | none=>rfl
 | some b=>cases b with
  | rows v e s rows=>simp only; cases (ver == v) <;> cases keep.contains id <;> rfl
  | froz v rows=>simp only; split <;> rfl
  | _=>rfl
theorem aDG (id v e s:Nat) (rows:List (List D)):Y6 keep id v (some (.rows v e s rows)) k = oH keep id (k (.own id 0)) (k .any):=by simp [Y6]
theorem aCD (id v:Nat) (rows:List (List D)):Y6 keep id v (some (.froz v rows)) k = k (.d (.sl rows)):=Á rfl
def MU (keep:List Nat) (bl:List (Nat × Option aL)):List V->(List V->Option β)->Option β
 | [],k=>k []
 | v :: cs,k=>k (DC keep (lk bl none) v :: cs.map (DC keep (lk bl none)))
theorem QU (cs:List V) (k:List V->Option β):MU keep bl cs k = k (cs.map (DC keep (lk bl none))):=by cases cs <;> rfl
theorem aFz (k:List V->Option β):MU keep bl [] k = k []:=rfl
theorem aLo (x:D) (cs:List V) (k:List V->Option β):MU keep bl (.d x :: cs) k = MU keep bl cs fun l=>k (.d x :: l):=by simp only [QU]; rfl
theorem aMH (cs:List V) (k:List V->Option β):MU keep bl (.nil :: cs) k = MU keep bl cs fun l=>k (.nil :: l):=by simp only [QU]; rfl
theorem aEk (id ver:Nat) (cs:List V) (k:List V->Option β):MU keep bl (.own id ver :: cs) k = GZ keep bl (.own id ver) fun v=>MU keep bl cs fun l=>k (v :: l):=by simp only [QU]; rfl
theorem aBD (ds:List D) (b:Nat->Option aL):(fL ds).map (DC keep b) = fL ds:=by
 induction ds with
 | nil=>rfl
 | cons x ds ih=>show DC keep b (.d x) :: (fL ds).map (DC keep b) = _; rw [ih]; rfl
theorem aDC (k:Option aL->Option β):MR keep bl none k = k none:=rfl
theorem aFg (c:V) (cs:List V) (k:Option aL->Option β):MR keep bl (some (.box (c :: cs))) k = MU keep bl (c :: cs) fun l=>k (some (.box l)):=by rw [QU]; rfl
theorem aAa (ds:List D) (k:Option aL->Option β):MR keep bl (some (.box (fL ds))) k = k (some (.box (fL ds))):=by
 show k (some (.box ((fL ds).map (DC keep (lk bl none))))) = _
 rw [aBD]
theorem aC8 (v e s:Nat) (rows:List (List D)) (k:Option aL->Option β):MR keep bl (some (.rows v e s rows)) k = k (some (.rows 0 e s rows)):=rfl
theorem aDt (v:Nat) (rows:List (List D)) (k:Option aL->Option β):MR keep bl (some (.froz v rows)) k = k none:=rfl
end
def aSJ (res:List qU):Ex->St->Option D
 | .normal,s=>match aM (zW s) res with
  | none=>none
  | some [v]=>lG s.blk v
  | some vs=>toD s.blk (.tup vs)
 | .ret,s=>match aM (zW s) res with
  | none=>none
  | some [v]=>lG s.blk v
  | some vs=>toD s.blk (.tup vs)
 | .exit _,_=>none
def R8 (fr:List (Nat × V)) (bl:List (Nat × Option aL)):List qU->(List D->Option D)->Option D
 | [],k=>k []
 | .tmp t :: r,k=>rK fr t fun v=>JV v bl fun x _=>R8 fr bl r fun l=>k (x :: l)
 | .cell t size isAgg :: r,k=>rK fr t fun p=>F6 size isAgg p bl fun v=>JV v bl fun x _=>R8 fr bl r fun l=>k (x :: l)
def WI:List D->Option D
 | [x]=>some x
 | l=>some (.tup l)
theorem XR (size:Nat) (a:Bool) (p:V):F6 size a p bl k = (UA size a p (lk bl none)).bind fun r=>k r.1:=by
 have h:=aD2 (T:=fun _=>none) (d:=0) (fr:=[]) (bl:=bl) (k:=k) (kw:=fun v _=>k v) size a (.c p)
 have e:fA [] (.c p) (fun v=>F6 size a v bl k) = F6 size a p bl k:=rfl
 rw [← e,← h,sS,QI]
 show TG (UA size a p (lk bl none)) k (fun v _=>k v) = _
 cases UA size a p (lk bl none) with
 | none=>rfl
 | some r=>obtain ⟨v,wr⟩:=r; cases wr <;> rfl
theorem PT (fr:List (Nat × V)) (bl:List (Nat × Option aL)):St.blk ⟨fr,bl⟩ = lk bl none:=rfl
theorem aPU (res:List qU):∀ (k:List D->Option D),R8 fr bl res k = (aM (zW ⟨fr,bl⟩) res).bind fun vs=>(aM (lG (lk bl none)) vs).bind k:=by
 induction res with
 | nil=>intro k; rfl
 | cons r res ih =>
  intro k
  cases r with
  | tmp t =>
   simp only [R8,rK,JV,ih,aM,zW,O9,PT]
   cases h1:aM (zW ⟨fr,bl⟩) res with
   | none =>
    simp only [Ŭ]
    cases lG (lk bl none) (lk fr .any t) <;> rfl
   | some vs =>
    simp only [À,aM]
    cases lG (lk bl none) (lk fr .any t) with
    | none=>rfl
    | some x=>cases aM (lG (lk bl none)) vs <;> rfl
  | cell t size isAgg =>
   simp only [R8,rK,XR,JV,ih,aM,zW,QI,O9,PT]
   cases UA size isAgg (lk fr .any t) (lk bl none) with
   | none=>rfl
   | some q =>
    obtain ⟨v,wr⟩:=q
    simp only [À]
    cases h1:aM (zW ⟨fr,bl⟩) res with
    | none =>
     simp only [Ŭ]
     cases lG (lk bl none) v <;> rfl
    | some vs =>
     simp only [À,aM]
     cases lG (lk bl none) v with
     | none=>rfl
     | some x=>cases aM (lG (lk bl none)) vs <;> rfl
theorem aGO (res:List qU):(match aM (zW ⟨fr,bl⟩) res with
  | none=>none
  | some [v]=>lG (lk bl none) v
  | some vs=>toD (lk bl none) (.tup vs)) = R8 fr bl res WI:=by
 rw [aPU]
 cases aM (zW ⟨fr,bl⟩) res with
 | none=>rfl
 | some vs =>
  simp only [À]
  cases vs with
  | nil=>rfl
  | cons v vs =>
   cases vs with
   | nil =>
    simp only [aM]
    cases lG (lk bl none) v <;> rfl
   | cons w ws =>
    show (aM (lG (lk bl none)) (v :: w :: ws)).map D.tup = _
    simp only [aM]
    cases lG (lk bl none) v with
    | none=>rfl
    | some x=>cases lG (lk bl none) w with
     | none=>rfl
     | some y=>cases aM (lG (lk bl none)) ws <;> rfl
theorem aQN (res:List qU):aSJ res .ret ⟨fr,bl⟩ = R8 fr bl res WI:=aGO res
theorem aKP (k:List D->Option D):R8 fr bl [] k = k []:=rfl
theorem aMd (t:Nat) (r:List qU) (k:List D->Option D):R8 fr bl (.tmp t :: r) k = rK fr t fun v=>JV v bl fun x _=>R8 fr bl r fun l=>k (x :: l):=rfl
theorem aIv (t size:Nat) (isAgg:Bool) (r:List qU) (k:List D->Option D):R8 fr bl (.cell t size isAgg :: r) k = rK fr t fun p=>F6 size isAgg p bl fun v=>JV v bl fun x _=>R8 fr bl r fun l=>k (x :: l):=rfl
theorem aOs (x:D):WI [x] = some x:=rfl
theorem aPM (x y:D) (l:List D):WI (x :: y :: l) = some (.tup (x :: y :: l)):=rfl
theorem aV {T:CJ} {f np nt:Nat} {res:List qU} {body:aH} (hf:T f = some (.code ⟨np,nt,res,body,false,false⟩)) (ds:List D) (hl:ds.length = np) (hlt:mO 0 ds = none):Vm.call T f ds = bD T body ⟨tM 0 ds,[]⟩ (aSJ res):=by
 rw [aDp hf ds hl hlt]
 unfold bD
 cases Vm.ev T body ⟨tM 0 ds,[]⟩ with
 | none=>rfl
 | some q =>
  obtain ⟨e,s⟩:=q
  cases e <;> rfl
def aGh:List V->V
 | [v]=>v
 | vs=>.tup vs
def Z4 (fr:List (Nat × V)) (bl:List (Nat × Option aL)):List qU->(List V->Option D)->Option D
 | [],k=>k []
 | .tmp t :: r,k=>rK fr t fun v=>Z4 fr bl r fun l=>k (v :: l)
 | .cell t size isAgg :: r,k=>rK fr t fun p=>F6 size isAgg p bl fun v=>Z4 fr bl r fun l=>k (v :: l)
theorem aNB (res:List qU):∀ (k:List V->Option D),Z4 fr bl res k = (aM (zW ⟨fr,bl⟩) res).bind k:=by
 induction res with
 | nil=>intro k; rfl
 | cons r res ih =>
  intro k
  cases r with
  | tmp t =>
   simp only [Z4,rK,ih,aM,zW,O9]
   cases aM (zW ⟨fr,bl⟩) res <;> rfl
  | cell t size isAgg =>
   simp only [Z4,rK,XR,ih,aM,zW,QI,O9,PT]
   cases UA size isAgg (lk fr .any t) (lk bl none) with
   | none=>rfl
   | some q =>
    obtain ⟨v,wr⟩:=q
    simp only [À]
    cases aM (zW ⟨fr,bl⟩) res <;> rfl
def aSn (res:List qU):Ex->St->Option D
 | .normal,s=>match aM (zW s) res with
  | none=>none
  | some [v]=>CO s.blk v
  | some vs=>CO s.blk (.tup vs)
 | .ret,s=>match aM (zW s) res with
  | none=>none
  | some [v]=>CO s.blk v
  | some vs=>CO s.blk (.tup vs)
 | .exit _,_=>none
theorem aOW (res:List qU):(match aM (zW ⟨fr,bl⟩) res with
  | none=>none
  | some [v]=>CO (lk bl none) v
  | some vs=>CO (lk bl none) (.tup vs)) = Z4 fr bl res fun vs=>CO (lk bl none) (aGh vs):=by
 rw [aNB]
 cases aM (zW ⟨fr,bl⟩) res with
 | none=>rfl
 | some vs =>
  cases vs with
  | nil=>rfl
  | cons v vs=>cases vs <;> rfl
theorem aQS (res:List qU):aSn res .ret ⟨fr,bl⟩ = Z4 fr bl res fun vs=>CO (lk bl none) (aGh vs):=aOW res
theorem aKT (k:List V->Option D):Z4 fr bl [] k = k []:=rfl
theorem aJL (t:Nat) (r:List qU) (k:List V->Option D):Z4 fr bl (.tmp t :: r) k = rK fr t fun v=>Z4 fr bl r fun l=>k (v :: l):=rfl
theorem aPP (x:V):aGh [x] = x:=rfl
theorem aMY (x y:V) (l:List V):aGh (x :: y :: l) = .tup (x :: y :: l):=rfl
theorem PA {T:CJ} {f np nt:Nat} {res:List qU} {body:aH} (hf:T f = some (.code ⟨np,nt,res,body,true,false⟩)) (ds:List D) (hl:ds.length = np) (hlt:mO 0 ds = none):Vm.call T f ds = bD T body ⟨tM 0 ds,[]⟩ (aSn res):=by
 rw [aDp hf ds hl hlt]
 unfold bD
 cases Vm.ev T body ⟨tM 0 ds,[]⟩ with
 | none=>rfl
 | some q =>
  obtain ⟨e,s⟩:=q
  cases e <;> rfl
def aEu (v:V) (b:Option aL) (x y:Option β):Option β:=match v,b with
 | .nil,none=>x
 | _,_=>y
theorem aQK (x y:Option β):aEu .nil none x y = x:=rfl
theorem aLb (i v:Nat) (b:Option aL) (x y:Option β):aEu (.own i v) b x y = y:=rfl
theorem aNn (live keep:List Nat) (t i e s:Nat) (l:List (Nat × Nat × Nat × Nat)) (c:List (Nat × Nat × Nat × Nat × Nat)) (ft:List Nat) (fc:List (Nat × Nat)) (k:List (Nat × V)->List (Nat × Option aL)->Option β) (hs:0 < s) :
  EH ⟨live,keep,(t,i,e,s) :: l,c,ft,fc⟩ fr bl k = rK fr t fun v=>cG bl i fun b=>aEu v b (SB e [] fun rows=>EH ⟨live,keep,l,c,ft,fc⟩ ((t,.own i 0) :: fr) ((i,some (.rows 0 e s rows)) :: bl) k) (EH ⟨live,keep,l,c,ft,fc⟩ fr bl k):=by
 show EH ⟨live,keep,(t,i,e,s) :: l,c,ft,fc⟩ fr bl k = aEu (lk fr .any t) (lk bl none i) _ _
 unfold EH
 rw [aTs]
 unfold mkT SB
 show k (BE.app ⟨live,keep,l,c,ft,fc⟩ (match lk fr .any t,lk bl none i with | .nil,none=>if 0 < s then _ else _ | _,_=>_)).fr (BE.app ⟨live,keep,l,c,ft,fc⟩ (match lk fr .any t,lk bl none i with | .nil,none=>if 0 < s then _ else _ | _,_=>_)).bl = _
 generalize lk fr .any t = v
 generalize lk bl none i = b
 cases v with
 | nil=>cases b with
  | none=>simp only [aEu,Á hs]
  | some b=>rfl
 | _=>rfl
def aLt (b0:Option aL) (n:Nat) (b:Option aL) (x:List V->Option β) (y:Option β):Option β:=match b0 with
 | some (.box cs)=>match cs[n]?,b with
  | some .nil,none=>x cs
  | _,_=>y
 | _=>y
theorem aOI (live keep:List Nat) (i n j e s:Nat) (c:List (Nat × Nat × Nat × Nat × Nat)) (ft:List Nat) (fc:List (Nat × Nat)) (k:List (Nat × V)->List (Nat × Option aL)->Option β) (hs:0 < s) :
  EH ⟨live,keep,[],(i,n,j,e,s) :: c,ft,fc⟩ fr bl k = cG bl i fun b0=>cG bl j fun b=>aLt b0 n b (fun cs=>RG cs n (.own j 0) fun cs'=>SB e [] fun rows=>EH ⟨live,keep,[],c,ft,fc⟩ fr ((i,some (.box cs')) :: (j,some (.rows 0 e s rows)) :: bl) k) (EH ⟨live,keep,[],c,ft,fc⟩ fr bl k):=by
 show EH ⟨live,keep,[],(i,n,j,e,s) :: c,ft,fc⟩ fr bl k = aLt (lk bl none i) n (lk bl none j) _ _
 unfold EH
 rw [aTl]
 have hm:∀ b0 b,lk bl none i = b0->lk bl none j = b->mkC (i,n,j,e,s) ⟨fr,bl⟩ = (match b0,b with
  | some (.box cs),none=>match cs[n]? with
   | some .nil=>if 0 < s then ⟨fr,(i,some (.box (cs.set n (.own j 0)))) :: (j,some (.rows 0 e s [])) :: bl⟩ else ⟨fr,bl⟩
   | _=>⟨fr,bl⟩
  | _,_=>⟨fr,bl⟩):=by
  rintro _ _ rfl rfl; rfl
 have hm:=hm _ _ rfl rfl
 rw [hm]
 generalize lk bl none i = b0
 generalize lk bl none j = b
 cases b0 with
 | none=>rfl
 | some b0=>cases b0 with
  | box cs =>
   cases b with
   | none =>
    simp only [aLt]
    cases h:cs[n]? with
    | none=>rfl
    | some v =>
     cases v with
     | nil =>
      have hn:n < cs.length:=by
       rw [Æ] at h
       exact h.1
      simp only [Á hs,aCL,SB]
      rw [Á (by omega)]
      have:∀ (cs:List V) (n:Nat),n < cs.length->lE cs n [.own j 0] = cs.set n (.own j 0):=by
       intro cs
       induction cs with
       | nil=>intro n h; simp at h
       | cons c cs ih =>
        intro n h
        cases n with
        | zero=>cases cs <;> rfl
        | succ n=>simp only [lE,List.set_cons_succ]; rw [ih n (by simpa using h)]
      rw [this cs n hn]
     | _=>rfl
   | some b=>simp only [aLt]; cases cs[n]? with
    | none=>rfl
    | some v=>cases v <;> rfl
  | _=>cases b <;> rfl
theorem aFN (k:List (Nat × Nat × V)->Option β):RZ fr [] k = k []:=rfl
theorem aD1 (o s:Nat) (x:d7) (l:List (Nat × Nat × d7)) (k:List (Nat × Nat × V)->Option β):RZ fr ((o,s,x) :: l) k = fA fr x fun v=>RZ fr l fun vs=>k ((o,s,v) :: vs):=rfl
theorem aJc (l:List (Nat × Nat × d7)):∀ (k:List (Nat × Nat × V)->Option β),RZ fr l k = k (l.map fun p=>(p.1,p.2.1,cZ (lk fr .any) p.2.2)):=by
 induction l with
 | nil=>intro k; rfl
 | cons p l ih=>intro k; obtain ⟨o,s,x⟩:=p; simp only [RZ,fA,ih,ø]
def YO (z:List V):List (Nat × Nat × V)->(List V->Option β)->Option β
 | [],k=>k z
 | (off,size,v) :: r,k=>QD v fun cs=>UH cs size (D4 z off cs fun z'=>YO z' r k)
theorem aIw (z:List V) (k:List V->Option β):YO z [] k = k z:=rfl
theorem aFY (z:List V) (off size:Nat) (v:V) (r:List (Nat × Nat × V)) (k:List V->Option β):YO z ((off,size,v) :: r) k = QD v fun cs=>UH cs size (D4 z off cs fun z'=>YO z' r k):=rfl
theorem aKC (ps:List (Nat × Nat × V)):∀ (z:List V) (k:List V->Option β),YO z ps k = (PC z ps).bind k:=by
 induction ps with
 | nil=>intro z k; rfl
 | cons p r ih =>
  intro z k
  obtain ⟨off,size,v⟩:=p
  simp only [YO,PC,QD,UH,D4,ih]
  by_cases h1:v.known = true
  ·by_cases h2:v.cells.length = size
   ·subst h2
    by_cases h3:off + v.cells.length <= z.length
    ·rw [Á h1,Á rfl,Á h3,Á ⟨rfl,h3,h1⟩]
    ·rw [Á h1,Á rfl,Ã h3,Ã (fun q=>h3 q.2.1)]; rfl
   ·rw [Á h1,Ã h2,Ã (fun q=>h2 q.1)]; rfl
  ·rw [Ã h1,Ã (fun q=>h1 q.2.2)]; rfl
theorem aHz (z:List V) (parts:List (Nat × Nat × d7)):FS T d (.build z parts) fr bl k kw = RZ fr parts fun ps=>YO z ps fun cs=>k (.agg cs):=by
 rw [sS,aJc,aKC]
 simp only [iB]
 have e1:(parts.map fun x=>match x with | (o,s,x)=>(o,s,cZ (lk fr .any) x)) = parts.map fun p=>(p.1,p.2.1,cZ (lk fr .any) p.2.2):=rfl
 rw [e1]
 cases PC z (parts.map fun p=>(p.1,p.2.1,cZ (lk fr .any) p.2.2)) <;> rfl
theorem aFK (ds:List D):(fL ds).length = ds.length:=by simp [fL]
def aL6 (bytes:Nat) (a b:V) (x:Nat->Option β):Option β:=match a,b with
 | .d (.int _ n),.d (.int _ m)=>if 0 <= n ∧ n <= m ∧ (bytes:Int) * m <= 281474976710656 ∧ m <= 9223372036854775807 then x n.toNat else none
 | _,_=>none
theorem aQH (bytes:Nat) (i j:IntKind) (n m:Int) (x:Nat->Option β):aL6 bytes (.d (.int i n)) (.d (.int j m)) x = if 0 <= n ∧ n <= m ∧ (bytes:Int) * m <= 281474976710656 ∧ m <= 9223372036854775807 then x n.toNat else none:=rfl
theorem aKb {α:Type} (e size bytes:Nat) (z:List D) (c:α->List D) (x:α) (hz:z = c x) (l cp:d7):FS T d (.makeSlice e size bytes z l cp) fr bl k kw = cG bl d fun b=>jX b (fA fr l fun a=>fA fr cp fun b=>aL6 bytes a b fun n=>kw (.own d 0) [(d,some (.rows 0 e size (cM c (List.replicate n x))))]):=aAk e size bytes z c x hz l cp
theorem aJ4 {k:Ex->St->Option β} (c:d7) (a b:aH):bD T (.cond c a b) ⟨fr,bl⟩ k = fA fr c fun v=>aEe v (bD T a ⟨fr,bl⟩ k) (bD T b ⟨fr,bl⟩ k):=aL5 c a b _
theorem aPs (a b c:List (Nat × Option aL)) (t:Nat) (k:Option aL->Option β):cG ((a ++ b) ++ c) t k = cG (a ++ (b ++ c)) t k:=by rw [è]
def aPk:List V->Nat->(V->Option β)->Option β->Option β
 | [],_,_,y=>y
 | c :: _,0,x,_=>x c
 | _ :: cs,n + 1,x,y=>aPk cs n x y
theorem aQV (c:V) (cs:List V) (x:V->Option β) (y:Option β):aPk (c :: cs) 0 x y = x c:=rfl
theorem aKp (cs:List V) (n:Nat) (b:Option aL) (x:List V->Option β) (y:Option β):aLt (some (.box cs)) n b x y = aPk cs n (fun v=>aEu v b (x cs) y) y:=by
 have:∀ (l:List V) (n:Nat),(match l[n]?,b with | some .nil,none=>x cs | _,_=>y) = aPk l n (fun v=>aEu v b (x cs) y) y:=by
  intro l
  induction l with
  | nil=>intro n; rfl
  | cons c l ih=>intro n; cases n with
   | zero=>cases c <;> cases b <;> rfl
   | succ n=>exact ih n
 exact this cs n
def aJz (rows:List (List D)) (k:V->Option β):Option β:=k (.d (.int .i64 rows.length))
theorem aN0 {α:Type} (c:α->List D) (xs:List α):aJz (cM c xs) k = k (.d (.int .i64 (xs.length:Int))):=by unfold aJz; rw [J9]
theorem aPb (x:d7):FS T d (.len x) fr bl k kw = fA fr x fun a=>UL a bl fun rows=>aJz rows k:=aN7 x
def aLU (v:V) (bl:List (Nat × Option aL)) (k:V->List (Nat × Option aL)->Option β) (y:Option β):Option β:=match AB (lk bl none) v with
 | some x=>k (.d x) (TY (lk bl none) v)
 | none=>y
theorem aQD (x:D) (k:V->List (Nat × Option aL)->Option β) (y:Option β):aLU (.d x) bl k y = k (.d x) []:=rfl
def aRW (id ver:Nat) (b:Option aL) (k:V->List (Nat × Option aL)->Option β) (y:Option β):Option β:=match b with
 | some (.rows v _ _ rows)=>if ver = v then k (.d (.sl rows)) [(id,some (.froz v rows))] else y
 | some (.froz v rows)=>if ver = v then k (.d (.sl rows)) [] else y
 | _=>y
theorem aJI (id ver:Nat) (k:V->List (Nat × Option aL)->Option β) (y:Option β):aLU (.own id ver) bl k y = cG bl id fun b=>aRW id ver b k y:=by
 unfold aLU cG aRW
 simp only [AB,TY]
 generalize lk bl none id = b
 cases b with
 | none=>rfl
 | some b=>cases b with
  | rows v e s rows=>simp only; by_cases h:ver = v <;> simp [h]
  | froz v rows=>simp only; by_cases h:ver = v <;> simp [h]
  | _=>rfl
theorem aIR (id v e s:Nat) (rows:List (List D)) (k:V->List (Nat × Option aL)->Option β) (y:Option β):aRW id v (some (.rows v e s rows)) k y = k (.d (.sl rows)) [(id,some (.froz v rows))]:=Á rfl
theorem aLd (live keep:List Nat) (t:Nat) (ft:List Nat) (fc:List (Nat × Nat)) (k:List (Nat × V)->List (Nat × Option aL)->Option β) :
  EH ⟨live,keep,[],[],t :: ft,fc⟩ fr bl k = rK fr t fun v=>aLU v bl (fun v' wr=>EH ⟨live,keep,[],[],ft,fc⟩ ((t,v') :: fr) (wr ++ bl) k) (EH ⟨live,keep,[],[],ft,fc⟩ fr bl k):=by
 unfold EH
 rw [aRe]
 unfold frT rK aLU
 rw [O9,PT]
 dsimp only
 cases AB (lk bl none) (lk fr .any t) <;> rfl
end
end Vm
end
section
namespace Vm
open Go.RowKit
section
variable {β:Type} {T:CJ}
def YN (d:Nat) (op:pF) (fr:List (Nat × V)) (bl:List (Nat × Option aL)) (k:List Nat->Option β):Option β :=
 k ((if op.new = true then [d] else []) ++ ((op.peeks.flatMap fun x=>(cZ (lk fr .any) x).ids) ++ op.deeps.flatMap fun x=>(cZ (lk fr .any) x).dids (lk bl none)))
def S8 (wr:List (Nat × Option aL)) (k:List Nat->Option β):Option β:=k (wr.map (·.1))
theorem aH7 (k:List Nat->Option β):S8 [] k = k []:=rfl
theorem aPD (i:Nat) (b:Option aL) (w:List (Nat × Option aL)) (k:List Nat->Option β):S8 ((i,b) :: w) k = S8 w fun l=>k (i :: l):=rfl
theorem aLA (w:List (Nat × Option aL)) (k:List Nat->Option β):S8 ([] ++ w) k = S8 w k:=rfl
theorem aLq (p:Nat × Option aL) (v w:List (Nat × Option aL)) (k:List Nat->Option β):S8 ((p :: v) ++ w) k = S8 (p :: (v ++ w)) k:=rfl
theorem aEL (d st:Nat) (op:pF) (l:List aS) (fr:List (Nat × V)) (bl:List (Nat × Option aL)) (fp:List Fp) (k:St->List Fp->Option β) :
  rM T (⟨some d,op,none,st⟩ :: l) ⟨fr,bl⟩ fp k = FS T st op fr bl (fun v=>YN st op fr bl fun f=>rM T l ⟨(d,v) :: fr,bl⟩ ((f,[]) :: fp) k) (fun v wr=>S8 wr fun ws=>YN st op fr bl fun f=>rM T l ⟨(d,v) :: fr,wr ++ bl⟩ ((f,ws) :: fp) k):=by
 rw [ZK]
 unfold FS UO YN
 show (match iB (call T) st (cZ (lk fr .any)) (lk bl none) op with | some (v,wr)=>_ | none=>none) = _
 cases iB (call T) st (cZ (lk fr .any)) (lk bl none) op with
 | none=>rfl
 | some r=>obtain ⟨v,wr⟩:=r; cases wr <;> rfl
theorem aDZ (st:Nat) (op:pF) (l:List aS) (fr:List (Nat × V)) (bl:List (Nat × Option aL)) (fp:List Fp) (k:St->List Fp->Option β) :
  rM T (⟨none,op,none,st⟩ :: l) ⟨fr,bl⟩ fp k = FS T st op fr bl (fun _=>YN st op fr bl fun f=>rM T l ⟨fr,bl⟩ ((f,[]) :: fp) k) (fun _ wr=>S8 wr fun ws=>YN st op fr bl fun f=>rM T l ⟨fr,wr ++ bl⟩ ((f,ws) :: fp) k):=by
 rw [ZK]
 unfold FS UO YN
 show (match iB (call T) st (cZ (lk fr .any)) (lk bl none) op with | some (v,wr)=>_ | none=>none) = _
 cases iB (call T) st (cZ (lk fr .any)) (lk bl none) op with
 | none=>rfl
 | some r=>obtain ⟨v,wr⟩:=r; cases wr <;> rfl
theorem aH0 (fr:List (Nat × V)) (bl:List (Nat × Option aL)) (fp:List Fp) (k:St->List Fp->Option β):rM T [] ⟨fr,bl⟩ fp k = k ⟨fr,bl⟩ fp:=rfl
theorem aN6 {l:List aS} {ps:List (Nat × Nat)} {s:St} {fp:List Fp} (k:St->Option β) (h:TH l fp.reverse ps = true):aNm l ps k s fp = k s:=Á h
theorem K0 {d:Option Nat} {st:Nat} {g g' : Option (Nat × Bool)} {fr:Nat->V} {bl:Nat->Option aL} {wr:List (Nat × Option aL)} (t:Nat) (b:Bool) (op:pF):DO ⟨d,UF t b op,g,st⟩ fr bl wr = DO ⟨d,op,g',st⟩ fr bl wr:=by
 cases op with
 | pick c x y =>
  cases c with
  | t t' =>
   simp only [UF]
   split <;> rfl
  | c v=>rfl
 | _=>rfl
theorem aEV {C:Nat->List D->Option D} {s:St} {t:Nat} {b:Bool} (h:s.get t = .d (.bool b)) (o:aS):mN C (TA t b o) s = mN C o s:=by
 obtain ⟨d,op,g,st⟩:=o
 cases g with
 | some g =>
  obtain ⟨t',w⟩:=g
  simp only [TA]
  split
  ·rename_i e
   subst e
   split
   ·rename_i e
    subst e
    simp only [mN,aS.wants,h,FY h]
    cases w <;> simp only [EF] <;> cases iB C st (cZ s.get) s.blk op <;> first | rfl | (simp [K0 (g':=some (t',false)),K0 (g':=some (t',true))]; done) | (simp [K0 (g':=some (t',false)),K0 (g':=some (t',true))]; rfl)
   ·rename_i e
    simp only [mN,aS.wants,h,iB,cZ]
    cases w <;> cases b <;> simp_all [EF,DO,pF.new,pF.peeks,pF.deeps]
  ·simp only [mN,aS.wants,FY h]
   cases EF (s.get t') w <;> simp only [] <;> cases iB C st (cZ s.get) s.blk op <;> simp [K0 (g':=some (t',w))]
 | none =>
  simp only [TA,mN,aS.wants,FY h]
  cases iB C st (cZ s.get) s.blk op <;> simp [K0 (g':=none)]
theorem aFR {C:Nat->List D->Option D} {o:aS} {s s' : St} {p:Fp} {t:Nat} (h:¬ o.dst = some t) (e:mN C o s = some (s',p)):s'.get t = s.get t:=by
 unfold mN at e
 split at e
 ·split at e
  ·cases e; exact MF h
  ·cases e
 ·cases e; exact MF h
 ·cases e
theorem R5 {t:Nat} {b:Bool}:∀ (l:List aS) {s:St} (fp:List Fp) (k:St->List Fp->Option β) (h:s.get t = .d (.bool b)),rM T (G2 t b l) s fp k = rM T l s fp k
 | [],s,fp,k,h=>rfl
 | o :: l,s,fp,k,h=>by
  simp only [G2,rM,aEV h]
  cases e:mN (call T) o s with
  | none=>rfl
  | some q =>
   obtain ⟨s',p⟩:=q
   simp only
   split
   ·rfl
   ·rename_i hd
    exact R5 l _ k (by rw [aFR hd e]; exact h)
noncomputable def QX (T:CJ) (v:V) (t:Nat) (l:List aS) (s:St) (fp:List Fp) (k:St->List Fp->Option β):Option β:=match v with
 | .d (.bool b)=>if b = true then rM T (G2 t true l) s fp k else rM T (G2 t false l) s fp k
 | .tup []=>match l with
  | o :: r=>rM T r (s.put o.dst (.tup []) []) (([],[]) :: fp) k
  | []=>none
 | _=>none
theorem aCF (d:Option Nat) (op:pF) (t:Nat) (w:Bool) (st:Nat) (l:List aS) (fr:List (Nat × V)) (bl:List (Nat × Option aL)) (fp:List Fp) (k:St->List Fp->Option β) :
  rM T (⟨d,op,some (t,w),st⟩ :: l) ⟨fr,bl⟩ fp k = rK fr t fun v=>QX T v t (⟨d,op,some (t,w),st⟩ :: l) ⟨fr,bl⟩ fp k:=by
 show _ = QX T (lk fr .any t) t _ _ fp k
 generalize hv:lk fr .any t = v
 have bad:∀ (q:EF v w = .bad),rM T (⟨d,op,some (t,w),st⟩ :: l) ⟨fr,bl⟩ fp k = none:=by
  intro q
  simp only [rM,mN,aS.wants]
  rw [show (St.get ⟨fr,bl⟩ t) = v from hv,q]
 cases v with
 | d x =>
  cases x with
  | bool b =>
   simp only [QX]
   cases b with
   | true=>rw [Á rfl,R5 (t:=t) (b:=true) (s:=⟨fr,bl⟩) _ _ _ hv]
   | false=>rw [Ã (by decide),R5 (t:=t) (b:=false) (s:=⟨fr,bl⟩) _ _ _ hv]
  | _=>exact bad rfl
 | tup vs =>
  cases vs with
  | nil =>
   simp only [QX,rM,mN,aS.wants]
   rw [show (St.get ⟨fr,bl⟩ t) = _ from hv]
   rfl
  | cons x l=>exact bad rfl
 | _=>exact bad rfl
theorem aIc (b:Bool) (t:Nat) (l:List aS) (s:St) (fp:List Fp) (k:St->List Fp->Option β):QX T (.d (.bool b)) t l s fp k = if b = true then rM T (G2 t true l) s fp k else rM T (G2 t false l) s fp k:=rfl
theorem aH6 (t d st:Nat) (op:pF) (g:Option (Nat × Bool)) (l:List aS) (fr:List (Nat × V)) (bl:List (Nat × Option aL)) (fp:List Fp) (k:St->List Fp->Option β):QX T (.tup []) t (⟨some d,op,g,st⟩ :: l) ⟨fr,bl⟩ fp k = rM T l ⟨(d,.tup []) :: fr,bl⟩ (([],[]) :: fp) k:=rfl
theorem yB {l l' : List aS} {s:St} {fp:List Fp} {k:St->List Fp->Option β} (h:l = l'):rM T l s fp k = rM T l' s fp k:=by rw [h]
theorem aMV (x:D) (ds:List D) (k:D->Option β):mL (x :: ds) 0 k = k x:=rfl
section
variable {d:Nat} {fr:List (Nat × V)} {bl:List (Nat × Option aL)} {k:List Nat->Option β}
def WW (v:V) (k:List Nat->Option β):Option β:=k v.ids
theorem aQR (x:D):WW (.d x) k = k []:=rfl
theorem aMB (i o:Nat):WW (.ptr i o) k = k [i]:=rfl
theorem aKi (i o:Nat):WW (.own i o) k = k [i]:=rfl
theorem aIk (i v j o:Nat):WW (.orow i v j o) k = k [i]:=rfl
def X4 (bl:List (Nat × Option aL)):List V->(List Nat->Option β)->Option β
 | [],k=>k []
 | c :: cs,k=>k (c.dids1 (lk bl none) ++ cs.flatMap (V.dids1 (lk bl none)))
def PK (bl:List (Nat × Option aL)) (v:V) (k:List Nat->Option β):Option β:=k (v.dids (lk bl none))
theorem aAW (cs:List V):X4 bl cs k = k (cs.flatMap (V.dids1 (lk bl none))):=by cases cs <;> rfl
theorem aGd:X4 bl [] k = k []:=rfl
theorem aK7 (x:D) (cs:List V):X4 bl (.d x :: cs) k = X4 bl cs k:=by simp only [aAW]; rfl
theorem aNt (x:D):PK bl (.d x) k = k []:=rfl
theorem aHV (i o:Nat):PK bl (.own i o) k = k [i]:=rfl
theorem aHR (cs:List V):PK bl (.agg cs) k = X4 bl cs k:=by rw [aAW]; rfl
theorem aDe (ds:List D):(fL ds).flatMap (V.dids1 (lk bl none)) = []:=by
 induction ds with
 | nil=>rfl
 | cons x ds ih=>exact ih
theorem aF8 (ds:List D):PK bl (zZ ds) k = k []:=by
 show k ((fL ds).flatMap (V.dids1 (lk bl none))) = _
 rw [aDe]
theorem aMh (x:d7):YN d (.move x) fr bl k = k []:=rfl
theorem aI2 (z:List V):YN d (.alloc z) fr bl k = k [d]:=rfl
theorem aJj (z:List V) (ps:List (Nat × Nat × d7)):YN d (.build z ps) fr bl k = k []:=rfl
theorem fp1 (l:List Nat):([]:List Nat) ++ ((l ++ []) ++ []) = l:=by simp
theorem aKg (s:Nat) (a:Bool) (x:d7):YN d (.load s a x) fr bl k = fA fr x fun v=>WW v k:=by
 show k ([] ++ (((cZ (lk fr .any) x).ids ++ []) ++ [])) = _
 rw [fp1]; rfl
theorem aBo (x:d7):YN d (.nilCheck x) fr bl k = fA fr x fun v=>WW v k:=by
 show k ([] ++ (((cZ (lk fr .any) x).ids ++ []) ++ [])) = _
 rw [fp1]; rfl
theorem Z8 (o:Nat) (x:d7):YN d (.fieldAddr o x) fr bl k = fA fr x fun v=>WW v k:=by
 show k ([] ++ (((cZ (lk fr .any) x).ids ++ []) ++ [])) = _
 rw [fp1]; rfl
theorem aOU (x:d7):YN d (.len x) fr bl k = fA fr x fun v=>WW v k:=by
 show k ([] ++ (((cZ (lk fr .any) x).ids ++ []) ++ [])) = _
 rw [fp1]; rfl
theorem Z3 (s:Nat) (x i:d7):YN d (.indexAddr s x i) fr bl k = fA fr x fun v=>WW v k:=by
 show k ([] ++ (((cZ (lk fr .any) x).ids ++ []) ++ [])) = _
 rw [fp1]; rfl
theorem aHQ (s:Nat) (x v:d7):YN d (.store s x v) fr bl k = fA fr x fun a=>WW a fun l=>fA fr v fun b=>PK bl b fun m=>k (l ++ m):=by
 show k ([] ++ (((cZ (lk fr .any) x).ids ++ []) ++ ((cZ (lk fr .any) v).dids (lk bl none) ++ []))) = _
 rw [Đ,Û,Û]; rfl
theorem aEE (e s b:Nat) (x y:d7):YN d (.append e s b x y) fr bl k = fA fr x fun u=>WW u fun l=>fA fr y fun v=>WW v fun m=>k (d :: (l ++ m)):=by
 show k ([d] ++ (((cZ (lk fr .any) x).ids ++ ((cZ (lk fr .any) y).ids ++ [])) ++ [])) = _
 rw [Û,Û]; rfl
def LM (fr:List (Nat × V)) (bl:List (Nat × Option aL)):List d7->(List Nat->Option β)->Option β
 | [],k=>k []
 | x :: l,k=>fA fr x fun v=>PK bl v fun m=>LM fr bl l fun n=>k (m ++ n)
theorem VG (l:List d7):∀ (k:List Nat->Option β),LM fr bl l k = k (l.flatMap fun x=>(cZ (lk fr .any) x).dids (lk bl none)):=by
 induction l with
 | nil=>intro k; rfl
 | cons x l ih=>intro k; simp only [LM,fA,PK,ih,ÿ]
theorem aFd (k:List Nat->Option β):LM fr bl [] k = k []:=rfl
theorem aCX (x:d7) (l:List d7) (k:List Nat->Option β):LM fr bl (x :: l) k = fA fr x fun v=>PK bl v fun m=>LM fr bl l fun n=>k (m ++ n):=rfl
theorem aKc (f:Nat) (args:List d7):YN d (.call f args) fr bl k = LM fr bl args k:=by
 rw [VG]; rfl
theorem aIx (g:d7) (args:List d7):YN d (.callv g args) fr bl k = LM fr bl args k:=by
 rw [VG]; rfl
def R9 (fr:List (Nat × V)) (bl:List (Nat × Option aL)):List (Nat × d7)->(List Nat->Option β)->Option β
 | [],k=>k []
 | (_,x) :: l,k=>fA fr x fun v=>PK bl v fun m=>R9 fr bl l fun n=>k (m ++ n)
theorem aIP (l:List (Nat × d7)):∀ (k:List Nat->Option β),R9 fr bl l k = k ((l.map fun p=>p.2).flatMap fun x=>(cZ (lk fr .any) x).dids (lk bl none)):=by
 induction l with
 | nil=>intro k; rfl
 | cons x l ih=>intro k; obtain ⟨i,x⟩:=x; simp only [R9,fA,PK,ih,ø,ÿ]
theorem aE1 (k:List Nat->Option β):R9 fr bl [] k = k []:=rfl
theorem aCB (i:Nat) (x:d7) (l:List (Nat × d7)) (k:List Nat->Option β):R9 fr bl ((i,x) :: l) k = fA fr x fun v=>PK bl v fun m=>R9 fr bl l fun n=>k (m ++ n):=rfl
theorem YG (e s n:Nat) (z:List D) (ps:List (Nat × d7)):YN d (.buildSlice e s z n ps) fr bl k = R9 fr bl ps fun l=>k (d :: l):=by
 rw [aIP]; rfl
theorem aN9 (c:Nat) (op:BinOp) (x y:d7):YN d (.bin c op x y) fr bl k = k []:=rfl
theorem aPK (ks:List Nat) (n:Bool) (x y:d7):YN d (.eqS ks n x y) fr bl k = k []:=rfl
theorem aD4 (x:d7) (i:Nat):YN d (.extract x i) fr bl k = k []:=rfl
theorem aJ7 {k:Ex->St->Option β} (l:List aS) (ps:List (Nat × Nat)):bD T (.region l (some ps)) ⟨fr,bl⟩ k = rM T l ⟨fr,bl⟩ [] (aNm l ps (k .normal)):=by
 rw [aKK,aPO]
end
section
variable {d:Nat} {fr:List (Nat × V)} {bl:List (Nat × Option aL)} {k:V->Option β} {kw:V->List (Nat × Option aL)->Option β}
def fzN (id:Nat) (f:List (Nat × Option aL)) (x:Option β):Option β:=if GT id f = true then x else none
theorem aAF (id:Nat) (b:List (Nat × Option aL)):∀ a:List (Nat × Option aL),GT id (a ++ b) = if GT id a = true then GT id b else false
 | []=>rfl
 | (i,x) :: a=>by
  simp only [ą,GT]
  by_cases h:i = id
  ·simp [h]
  ·simp only [Ã h]; exact aAF id b a
theorem aNX (id:Nat) (x:Option β):fzN id [] x = x:=rfl
theorem aTC (id i:Nat) (b:Option aL) (w:List (Nat × Option aL)) (x:Option β) (h:(i == id) = false):fzN id ((i,b) :: w) x = fzN id w x:=by
 have h:¬ i = id:=by simpa using h
 simp only [fzN,GT,Ã h]
theorem aPV (id:Nat) (a b:List (Nat × Option aL)) (x:Option β):fzN id (a ++ b) x = fzN id a (fzN id b x):=by
 unfold fzN
 rw [aAF]
 by_cases h:GT id a = true
 ·rw [Á h,Á h]
 ·rw [Ã h,Ã h]; rfl
def oP (row:List D) (off:Nat) (ds:List D) (size:Nat) (k:List D->Option β):Option β:=if ds.length = size ∧ off + size <= row.length then k (lE row off ds) else none
theorem aCe (c:D) (cs:List D) (off:Nat) (e:D) (ds:List D) (n:Nat) (k:List D->Option β):oP (c :: cs) (off + 1) (e :: ds) n k = oP cs off (e :: ds) n fun l=>k (c :: l):=by
 unfold oP
 simp only [ï,lE]
 by_cases h:ds.length + 1 = n ∧ off + n <= cs.length
 ·exact (Á (by omega)).trans (Á h).symm
 ·exact (Ã (by omega)).trans (Ã h).symm
theorem aCC (c:D) (cs:List D) (e:D) (ds:List D) (n:Nat) (k:List D->Option β):oP (c :: cs) 0 (e :: ds) (n + 1) k = oP cs 0 ds n fun l=>k (e :: l):=by
 unfold oP
 simp only [ï,lE]
 by_cases h:ds.length = n ∧ 0 + n <= cs.length
 ·exact (Á (by omega)).trans (Á h).symm
 ·exact (Ã (by omega)).trans (Ã h).symm
theorem aDM (cs:List D) (k:List D->Option β):oP cs 0 [] 0 k = k cs:=by
 unfold oP
 rw [Á ⟨rfl,by omega⟩,aBd]
def EL (e:Nat) (rows:List (List D)) (i:Nat) (row:List D) (k:List (List D)->Option β):Option β:=k (rows.set i row)
theorem G6 {α:Type} (e:Nat) (c:α->List D) (xs:List α) (i:Nat) (x:α) (k:List (List D)->Option β):EL e (cM c xs) i (c x) k = k (cM c (xs.set i x)):=by
 unfold EL
 rw [aRH]
theorem aQa {α:Type} (size v i off id e sz:Nat) (w:V) (c:α->List D) (xs:List α):T8 size v i off id w bl (some (.rows v e sz (cM c xs))) kw = W7 w bl fun ds f=>fzN id f (xs[i]?.bind fun x=>oP (c x) off ds size fun row=>EL e (cM c xs) i row fun rows=>kw .any ((id,some (.rows v e sz rows)) :: f)):=by
 unfold T8 W7
 simp only [Y7,Č,cM,Ç]
 cases xs[i]? with
 | none =>
  simp only [Option.map_none,Ŭ]
  cases aM (pE (lk bl none)) w.cells with
  | none=>rfl
  | some ds=>simp only [fzN]; split <;> rfl
 | some x =>
  simp only [ä,À]
  cases aM (pE (lk bl none)) w.cells with
  | none=>rfl
  | some ds =>
   simp only [oP,EL,fzN]
   by_cases h1:GT id (CI (lk bl none) w) = true
   ·rw [Á h1]
    by_cases h2:ds.length = size ∧ off + size <= (c x).length
    ·rw [Á h2,Á ⟨h2.1,h2.2,h1⟩]; rfl
    ·rw [Ã h2,Ã (fun q=>h2 ⟨q.1,q.2.1⟩)]; rfl
   ·rw [Ã h1,Ã (fun q=>h1 q.2.2)]; rfl
end
end
section
variable {β:Type} {T:CJ} {bl:List (Nat × Option aL)} {k:V->Option β} {kw:V->List (Nat × Option aL)->Option β}
def XA (size id ver:Nat) (lo hi:Option V) (b:Option aL) (k:V->Option β) (kw:V->List (Nat × Option aL)->Option β):Option β:=TG (GW (fun _=>b) size (.own id ver) lo hi) k kw
theorem aEH (size id ver:Nat) (lo hi:Option V):VJ size (.own id ver) lo hi bl k kw = cG bl id fun b=>XA size id ver lo hi b k kw:=by
 unfold VJ cG XA
 congr 1
 cases lo with
 | none=>cases hi with
  | none=>rfl
  | some h=>cases h with
   | d x=>cases x <;> rfl
   | _=>rfl
 | some l=>rfl
section
variable {α:Type} (size id v:Nat) (c:α->List D) (xs:List α) (hs:sized size (cM c xs) = true)
include hs
end
theorem aEO {α:Type} (size id v e s:Nat) (c:α->List D) (xs:List α) (kd:IntKind) (h:Int):XA size id v none (some (.d (.int kd h))) (some (.rows v e s (cM c xs))) k kw = if 0 <= h ∧ h.toNat <= xs.length then kw (.own id (v + 1)) [(id,some (.rows (v + 1) e s (cM c (xs.take h.toNat))))] else none:=by
 unfold XA GW
 simp only [cM,È,true_and,Ţ]
 split <;> rfl
end
end Vm
end
section
namespace Vm
open Go.RowKit
section
variable {β:Type} {T:CJ} {d:Nat} {fr:List (Nat × V)} {bl:List (Nat × Option aL)} {k:V->Option β} {kw:V->List (Nat × Option aL)->Option β}
def aIy:List d7->Nat->(d7->Option β)->Option β
 | [],_,_=>none
 | x :: _,0,g=>g x
 | _ :: l,n + 1,g=>aIy l n g
theorem aRJ (x:d7) (l:List d7) (g:d7->Option β):aIy (x :: l) 0 g = g x:=rfl
theorem aRD (x:d7) (l:List d7) (n:Nat) (g:d7->Option β):aIy (x :: l) (n + 1) g = aIy l n g:=rfl
theorem aGV (g:d7->Option β):∀ (l:List d7) (n:Nat),aIy l n g = l[n]?.bind g
 | [],_=>rfl
 | _ :: _,0=>rfl
 | _ :: l,n + 1=>aGV g l n
def aE2 (v:V) (g:Nat->Nat->Option β):Option β:=match v with
 | .own id ver=>g id ver
 | _=>none
theorem aRY (id ver:Nat) (g:Nat->Nat->Option β):aE2 (.own id ver) g = g id ver:=rfl
def aCQ (v:V) (bl:List (Nat × Option aL)) (g:D->Option β):Option β:=(T7 (lk bl none) v).bind g
def aF9 (ver:Nat) (b:Option aL) (g:D->Option β):Option β:=match b with
 | some (.rows v e size rows)=>if ver = v then g (.own (.ref 0) [(e,size)] [rows]) else none
 | _=>none
theorem aIb (id ver:Nat) (g:D->Option β):aCQ (.own id ver) bl g = cG bl id fun b=>aF9 ver b g:=by
 unfold aCQ cG aF9 T7
 simp only
 cases lk bl none id with
 | none=>rfl
 | some b =>
  cases b with
  | rows v e size rows=>simp only; split <;> rfl
  | _=>rfl
theorem aCq (v e s:Nat) (rows:List (List D)) (g:D->Option β):aF9 v (some (.rows v e s rows)) g = g (.own (.ref 0) [(e,s)] [rows]):=Á rfl
def NJ (fr:List (Nat × V)) (bl:List (Nat × Option aL)) (t:Nat):Nat->List d7->(List D->List (Nat × Option aL)->Option β)->Option β
 | _,[],g=>g [] []
 | i,x :: l,g=>fA fr x fun v=>if i = t then aCQ v bl fun y=>NJ fr bl t (i + 1) l fun ds f=>g (y :: ds) f else JV v bl fun y f=>NJ fr bl t (i + 1) l fun ds f'=>g (y :: ds) (f ++ f')
theorem aHr (t i:Nat) (g:List D->List (Nat × Option aL)->Option β):NJ fr bl t i [] g = g [] []:=rfl
theorem aIo (t i:Nat) (x:d7) (l:List d7) (g:List D->List (Nat × Option aL)->Option β) (h:(i == t) = true):NJ fr bl t i (x :: l) g = fA fr x fun v=>aCQ v bl fun y=>NJ fr bl t (i + 1) l fun ds f=>g (y :: ds) f:=by
 have:i = t:=by simpa using h
 simp only [NJ,Á this]
theorem aF1 (t i:Nat) (x:d7) (l:List d7) (g:List D->List (Nat × Option aL)->Option β) (h:(i == t) = false):NJ fr bl t i (x :: l) g = fA fr x fun v=>JV v bl fun y f=>NJ fr bl t (i + 1) l fun ds f'=>g (y :: ds) (f ++ f'):=by
 have:¬ i = t:=by simpa using h
 simp only [NJ,Ã this]
theorem X3 (t:Nat):∀ (l:List d7) (i:Nat) (g:List D->List (Nat × Option aL)->Option β),NJ fr bl t i l g = (KG (lk bl none) t i (l.map (cZ (lk fr .any)))).bind fun ds=>g ds (AA (lk bl none) t i (l.map (cZ (lk fr .any))))
 | [],i,g=>rfl
 | x :: l,i,g=>by
  simp only [NJ,ø,KG,AA,fA]
  by_cases h:i = t
  ·simp only [Á h,aCQ,X3 t l (i + 1)]
   cases T7 (lk bl none) (cZ (lk fr .any) x) with
   | none=>rfl
   | some y =>
    cases KG (lk bl none) t (i + 1) (l.map (cZ (lk fr .any))) with
    | none=>rfl
    | some ds=>simp
  ·simp only [Ã h,JV,X3 t l (i + 1)]
   cases lG (lk bl none) (cZ (lk fr .any) x) with
   | none=>rfl
   | some y=>cases KG (lk bl none) t (i + 1) (l.map (cZ (lk fr .any))) <;> rfl
noncomputable def VZ (T:CJ) (bl:List (Nat × Option aL)) (f id ver:Nat) (ds:List D) (kw:V->List (Nat × Option aL)->Option β):Option β:=match call T f ds with
 | some (.own y [(e,size)] [rows'])=>match lk bl none id with
  | some (.rows v e' size' _)=>if ver = v ∧ e = e' ∧ size = size' ∧ PF y = true ∧ uP rows' = true then kw (toV y) [(id,some (.rows v e size rows'))] else none
  | _=>none
 | _=>none
theorem aLS (f:Nat) (args:List d7) (t:Nat):FS T d (.lend f args t) fr bl k kw = aIy args t fun x=>fA fr x fun v=>aE2 v fun id ver=>NJ fr bl t 0 args fun ds fz=>fzN id fz (VZ T bl f id ver ds kw):=by
 rw [sS,aGV]
 simp only [iB,Ç]
 cases args[t]? with
 | none=>rfl
 | some x =>
  simp only [ä,À,fA]
  generalize cZ (lk fr .any) x = v
  cases v with
  | own id ver =>
   simp only [aE2,X3]
   cases KG (lk bl none) t 0 (args.map (cZ (lk fr .any))) with
   | none=>rfl
   | some ds =>
    simp only [À,fzN]
    split
    ·unfold VZ
     generalize call T f ds = r
     generalize lk bl none id = b
     split
     ·split
      ·split
       ·rename_i hq
        exact (Á hq).symm
       ·rename_i hq
        exact (Ã hq).symm
      ·rename_i hq
       cases b with
       | none=>rfl
       | some b=>cases b <;> first | rfl | exact absurd rfl (hq _ _ _ _)
     ·rename_i hq
      split
      ·exact absurd rfl (hq _ _ _ _)
      ·rfl
    ·rfl
  | _=>rfl
def RS (ver e size:Nat) (rows' : List (List D)) (b:Option aL) (g:Option aL->Option β):Option β:=match b with
 | some (.rows v e' s' _)=>if ver = v ∧ e = e' ∧ size = s' then g (some (.rows v e size rows')) else none
 | _=>none
theorem aCo (v e s:Nat) (rows rows' : List (List D)) (g:Option aL->Option β):RS v e s rows' (some (.rows v e s rows)) g = g (some (.rows v e s rows')):=Á ⟨rfl,rfl,rfl⟩
theorem QV {α:Type} {f e size:Nat} {ds:List D} {o:Option α} {y:α->D} {r:α->List (List D)} (h:call T f ds = o.map fun x=>.own (y x) [(e,size)] [r x]) (hy:∀ x,PF (y x) = true) (hr:∀ x,uP (r x) = true) (id ver:Nat) :
  VZ T bl f id ver ds kw = o.bind fun x=>cG bl id fun b=>RS ver e size (r x) b fun b'=>kw (toV (y x)) [(id,b')]:=by
 unfold VZ
 rw [h]
 cases o with
 | none=>rfl
 | some x =>
  simp only [ä,À,cG,RS,hy x,hr x,and_true]
theorem wE {α:Type} (c:α->List D) (hc:∀ x,(c x).all NF = true) (xs:List α):uP (cM c xs) = true:=by
 unfold uP cM
 rw [Ó]
 intro row hr
 obtain ⟨x,_,rfl⟩:=Ú.1 hr
 exact hc x
def aRb (res:List qU) (t:Nat):Ex->St->Option D
 | .normal,s=>D9 ⟨0,0,res,.skip,true,true⟩ s t
 | .ret,s=>D9 ⟨0,0,res,.skip,true,true⟩ s t
 | .exit _,_=>none
def aDo (ver:Nat) (b:Option aL) (g:Nat->Nat->List (List D)->Option D):Option D:=match b with
 | some (.rows v e size rows)=>if ver = v then g e size rows else none
 | _=>none
theorem aER (v e s:Nat) (rows:List (List D)) (g:Nat->Nat->List (List D)->Option D):aDo v (some (.rows v e s rows)) g = g e s rows:=Á rfl
def aB6 (e s:Nat) (rows:List (List D)) (y:D):Option D:=if PF y = true then some (.own y [(e,s)] [rows]) else none
theorem aL9 (e s:Nat) (rows:List (List D)):aB6 e s rows (.tup []) = some (.own (.tup []) [(e,s)] [rows]):=rfl
theorem aGp (res:List qU) (t:Nat):D9 ⟨0,0,res,.skip,true,true⟩ ⟨fr,bl⟩ t = rK fr t fun v=>aE2 v fun id ver=>cG bl id fun b=>aDo ver b fun e s rows=>(R8 fr bl res WI).bind (aB6 e s rows):=by
 unfold D9 rK
 rw [O9]
 cases lk fr .any t with
 | own id ver =>
  simp only [aE2,cG,aDo]
  rw [PT]
  cases lk bl none id with
  | none=>rfl
  | some b =>
   cases b with
   | rows v e size rows =>
    simp only
    split
    ·rw [← aGO]
     cases aM (zW ⟨fr,bl⟩) res with
     | none=>rfl
     | some us =>
      cases us with
      | nil=>rfl
      | cons u us=>cases us with
       | nil=>simp only [PT]; cases lG (lk bl none) u <;> rfl
       | cons w us=>simp only [PT]; cases toD (lk bl none) (.tup (u :: w :: us)) <;> rfl
    ·rfl
   | _=>rfl
 | _=>rfl
theorem aRw (res:List qU) (t:Nat):aRb res t .normal ⟨fr,bl⟩ = rK fr t fun v=>aE2 v fun id ver=>cG bl id fun b=>aDo ver b fun e s rows=>(R8 fr bl res WI).bind (aB6 e s rows):=aGp res t
theorem aRc (res:List qU) (t:Nat):aRb res t .ret ⟨fr,bl⟩ = rK fr t fun v=>aE2 v fun id ver=>cG bl id fun b=>aDo ver b fun e s rows=>(R8 fr bl res WI).bind (aB6 e s rows):=aGp res t
theorem aNV:WI [] = some (.tup []):=rfl
theorem YW {T:CJ} {f np nt t:Nat} {res:List qU} {body:aH} {fs:Bool} (hf:T f = some (.code ⟨np,nt,res,body,fs,true⟩)) (ds:List D) (hl:ds.length = np) (hlt:mO 0 ds = some t) (hnd:FK t body = true):Vm.call T f ds = bD T body (GS t ds) (aRb res t):=by
 rw [aIV hf ds hl hlt rfl hnd]
 unfold bD
 cases Vm.ev T body (GS t ds) with
 | none=>rfl
 | some q =>
  obtain ⟨e,s⟩:=q
  cases e <;> rfl
end
section
variable {β:Type} {T:CJ}
end
section
variable {β:Type} {T:CJ} {fr:List (Nat × V)} {bl:List (Nat × Option aL)}
def GQ (fr:List (Nat × V)):List Nat->(List V->Option β)->Option β
 | [],k=>k []
 | t :: l,k=>rK fr t fun v=>GQ fr l fun vs=>k (v :: vs)
theorem VR (l:List Nat) (k:List V->Option β):GQ fr l k = k (l.map (lk fr .any)):=by
 induction l generalizing k with
 | nil=>rfl
 | cons x l ih=>simp only [GQ,rK,ih,ø]
theorem aGc (k:List V->Option β):GQ fr [] k = k []:=rfl
theorem aEa (t:Nat) (l:List Nat) (k:List V->Option β):GQ fr (t :: l) k = rK fr t fun v=>GQ fr l fun vs=>k (v :: vs):=rfl
def aSs (args:List d7) (id:Nat) (slots:List Nat) (fr:List (Nat × V)) (bl:List (Nat × Option aL)) (k:List (Nat × V)->List (Nat × Option aL)->Option β):Option β :=
 cG bl id fun b=>jX b (GQ fr slots fun cs=>OE fr args fun vs=>k (sV 0 vs) ((id,some (.outer cs)) :: bl))
def inK (args:List d7) (id:Nat) (slots:List Nat) (s:St) (k:List (Nat × V)->List (Nat × Option aL)->Option β):Option β:=aSs args id slots s.fr s.bl k
theorem aRo (args:List d7) (id:Nat) (slots:List Nat) (k:List (Nat × V)->List (Nat × Option aL)->Option β):inK args id slots ⟨fr,bl⟩ k = cG bl id fun b=>jX b (GQ fr slots fun cs=>OE fr args fun vs=>k (sV 0 vs) ((id,some (.outer cs)) :: bl)):=rfl
theorem aIS (i:Nat):sV i [] = []:=rfl
theorem aFb (i:Nat) (v:V) (l:List V):sV i (v :: l) = (i,v) :: sV (i + 1) l:=rfl
theorem aNE (args:List d7) (id:Nat) (slots:List Nat) (k:St->Option β):(aAY args id slots ⟨fr,bl⟩).bind k = inK args id slots ⟨fr,bl⟩ fun fr' bl'=>k ⟨fr',bl'⟩:=by
 unfold aAY inK aSs cG jX
 rw [U9]
 cases hb:lk bl none id with
 | some b=>rfl
 | none =>
  simp only [Option.isNone_none,Č,À,VR,YJ]
  rfl
def aAc (fr:List (Nat × V)) (bl:List (Nat × Option aL)):List qU->(List V->Option β)->Option β
 | [],k=>k []
 | .tmp t :: r,k=>rK fr t fun v=>aAc fr bl r fun l=>k (v :: l)
 | .cell t size isAgg :: r,k=>rK fr t fun p=>F6 size isAgg p bl fun v=>aAc fr bl r fun l=>k (v :: l)
theorem aMP (res:List qU):∀ (k:List V->Option β),aAc fr bl res k = (aM (zW ⟨fr,bl⟩) res).bind k:=by
 induction res with
 | nil=>intro k; rfl
 | cons r res ih =>
  intro k
  cases r with
  | tmp t =>
   simp only [aAc,rK,ih,aM,zW,O9]
   cases aM (zW ⟨fr,bl⟩) res <;> rfl
  | cell t size isAgg =>
   simp only [aAc,rK,XR,ih,aM,zW,QI,O9,PT]
   cases UA size isAgg (lk fr .any t) (lk bl none) with
   | none=>rfl
   | some q =>
    obtain ⟨v,wr⟩:=q
    simp only [À]
    cases aM (zW ⟨fr,bl⟩) res <;> rfl
theorem aLz (k:List V->Option β):aAc fr bl [] k = k []:=rfl
theorem aQM (t:Nat) (r:List qU) (k:List V->Option β):aAc fr bl (.tmp t :: r) k = rK fr t fun v=>aAc fr bl r fun l=>k (v :: l):=rfl
def aCp (dst:Option Nat) (slots:List Nat) (cs vs:List V) (k:List (Nat × V)->Option β):Option β :=
 match vs with
 | [v]=>k (WX dst v ++ slots.zip cs)
 | vs=>if vs.all V.noTup = true then k (WX dst (.tup vs) ++ slots.zip cs) else none
theorem aHA (dst:Option Nat) (slots:List Nat) (cs:List V) (v:V) (k:List (Nat × V)->Option β):aCp dst slots cs [v] k = k (WX dst v ++ slots.zip cs):=rfl
theorem aIz (dst:Option Nat) (slots:List Nat) (cs:List V) (k:List (Nat × V)->Option β):aCp dst slots cs [] k = k (WX dst (.tup []) ++ slots.zip cs):=rfl
theorem aGa (dst:Option Nat) (slots:List Nat) (cs:List V) (v u:V) (l:List V) (k:List (Nat × V)->Option β):aCp dst slots cs (v :: u :: l) k = if (v :: u :: l).all V.noTup = true then k (WX dst (.tup (v :: u :: l)) ++ slots.zip cs) else none:=rfl
theorem aHC (d:Nat) (v:V) (l:List (Nat × V)):WX (some d) v ++ l = (d,v) :: l:=rfl
theorem aIn (v:V) (l:List (Nat × V)):WX none v ++ l = l:=rfl
theorem aMC:([]:List Nat).zip ([]:List V) = []:=rfl
theorem aHH (t:Nat) (v:V) (l:List Nat) (r:List V):(t :: l).zip (v :: r) = (t,v) :: l.zip r:=rfl
def O8 (b:Option aL) (k:List V->Option β):Option β:=match b with
 | some (.outer cs)=>k cs
 | _=>none
theorem aLM (cs:List V) (k:List V->Option β):O8 (some (.outer cs)) k = k cs:=rfl
def aKD (dst:Option Nat) (res:List qU) (id:Nat) (slots:List Nat) (fr:List (Nat × V)) (bl:List (Nat × Option aL)) (k:List (Nat × V)->List (Nat × Option aL)->Option β):Option β :=
 cG bl id fun b=>O8 b fun cs=>aAc fr bl res fun vs=>aCp dst slots cs vs fun fr'=>k fr' ((id,none) :: bl)
theorem aPi (dst:Option Nat) (res:List qU) (id:Nat) (slots:List Nat) (k:List (Nat × V)->List (Nat × Option aL)->Option β):aKD dst res id slots fr bl k = cG bl id fun b=>O8 b fun cs=>aAc fr bl res fun vs=>aCp dst slots cs vs fun fr'=>k fr' ((id,none) :: bl):=rfl
theorem aDa (dst:Option Nat) (res:List qU) (id:Nat) (slots:List Nat) (k:St->Option β):(pS dst res id slots ⟨fr,bl⟩).bind k = aKD dst res id slots fr bl fun fr' bl'=>k ⟨fr',bl'⟩:=by
 unfold pS aKD cG
 rw [U9]
 cases hb:lk bl none id with
 | none=>cases aM (zW ⟨fr,bl⟩) res <;> rfl
 | some b =>
  cases b with
  | outer cs =>
   simp only [O8,aMP]
   cases aM (zW ⟨fr,bl⟩) res with
   | none=>rfl
   | some vs =>
    simp only [À]
    cases vs with
    | nil=>rfl
    | cons v vs=>cases vs with
     | nil=>rfl
     | cons u vs =>
      rw [aGa]
      show (if (v :: u :: vs).all V.noTup = true then some _ else none).bind k = _
      split <;> rfl
  | _=>cases aM (zW ⟨fr,bl⟩) res <;> rfl
def XP (dst:Option Nat) (res:List qU) (id:Nat) (slots:List Nat) (k:Ex->St->Option β):Ex->St->Option β
 | .normal,s=>(pS dst res id slots s).bind fun s4=>k .normal s4
 | .ret,s=>(pS dst res id slots s).bind fun s4=>k .normal s4
 | .exit _,_=>none
theorem aLB (dst:Option Nat) (res:List qU) (id:Nat) (slots:List Nat) (k:Ex->St->Option β):XP dst res id slots k .normal ⟨fr,bl⟩ = aKD dst res id slots fr bl fun fr' bl'=>k .normal ⟨fr',bl'⟩:=aDa dst res id slots _
theorem aKs (dst:Option Nat) (res:List qU) (id:Nat) (slots:List Nat) (k:Ex->St->Option β):XP dst res id slots k .ret ⟨fr,bl⟩ = aKD dst res id slots fr bl fun fr' bl'=>k .normal ⟨fr',bl'⟩:=aDa dst res id slots _
theorem aOf {k:Ex->St->Option β} (ops:List aS) (args:List d7) (dst:Option Nat) (f:Nat) (body:aH) (res:List qU) (id:Nat) (slots:List Nat) :
  bD T (.inl ops args dst f body res id slots) ⟨fr,bl⟩ k = AW T ops ⟨fr,bl⟩ fun s1=>inK args id slots s1 fun fr' bl'=>bD T body ⟨fr',bl'⟩ (XP dst res id slots k):=by
 rw [aOT]
 congr 1
 funext s1
 refine Eq.trans ?_ (aNE (fr:=s1.fr) (bl:=s1.bl) args id slots fun s=>bD T body s (XP dst res id slots k))
 congr 1
 funext s2
 congr 1
 funext ex s3
 cases ex <;> rfl
def RL (keep:List Nat) (bl:List (Nat × Option aL)):List V->(List V->Option β)->Option β
 | [],k=>k []
 | v :: cs,k=>GZ keep bl v fun v'=>RL keep bl cs fun l=>k (v' :: l)
theorem aHn (keep:List Nat) (cs:List V):∀ (k:List V->Option β),RL keep bl cs k = k (cs.map (RJ keep (lk bl none))):=by
 induction cs with
 | nil=>intro k; rfl
 | cons v cs ih=>intro k; simp only [RL,GZ,ih,ø]
theorem aFs (keep:List Nat) (k:List V->Option β):RL keep bl [] k = k []:=rfl
theorem aD3 (keep:List Nat) (v:V) (cs:List V) (k:List V->Option β):RL keep bl (v :: cs) k = GZ keep bl v fun v'=>RL keep bl cs fun l=>k (v' :: l):=rfl
theorem aBH (keep:List Nat) (cs:List V) (k:Option aL->Option β):MR keep bl (some (.outer cs)) k = RL keep bl cs fun l=>k (some (.outer l)):=by rw [aHn]; rfl
end
section
variable {β:Type} {T:CJ} {d:Nat} {fr:List (Nat × V)} {bl:List (Nat × Option aL)} {k:V->Option β} {kw:V->List (Nat × Option aL)->Option β}
noncomputable def DY (T:CJ) (d:Nat) (bl:List (Nat × Option aL)) (f:Nat) (ds:List D) (k:V->Option β) (kw:V->List (Nat × Option aL)->Option β):Option β:=match call T f ds with
 | some (.own x es rs)=>if QM x rs = true then TG (uJ d (lk bl none) [] (.own x es rs)) k kw else none
 | _=>none
theorem aHw (f:Nat) (args:List d7):FS T d (.calln f args) fr bl k kw = V4 fr bl args fun ds _=>DY T d bl f ds k kw:=by
 rw [sS,aCN]
 simp only [iB]
 cases aM (fun x=>lG (lk bl none) (cZ (lk fr .any) x)) args with
 | none=>rfl
 | some ds =>
  simp only [À,DY]
  cases call T f ds with
  | none=>rfl
  | some y =>
   cases y with
   | own x es rs=>simp only; split <;> rfl
   | _=>rfl
theorem aIX (f:Nat) (args:List d7) (k:List Nat->Option β):YN d (.calln f args) fr bl k = LM fr bl args k:=by
 rw [VG]; rfl
theorem wX {x:D} {rs:List (List (List D))} (h1:aG2 x = true) (h2:rs.all uP = true):QM x rs = true:=by simp only [QM,h1,h2,Bool.and_self]
theorem C5 {r:List (List D)} {rs:List (List (List D))} (h1:uP r = true) (h2:rs.all uP = true):(r :: rs).all uP = true:=by simp only [š,h1,h2,Bool.and_self]
theorem yQ {α:Type} {f:Nat} {ds:List D} {o:Option α} {y:α->D} {p:Nat × Nat} {es:List (Nat × Nat)} {r:α->List (List D)} {rs:α->List (List (List D))} (h:call T f ds = o.map fun x=>.own (y x) (p :: es) (r x :: rs x)) (hn:∀ x,QM (y x) (r x :: rs x) = true) :
  DY T d bl f ds k kw = o.bind fun x=>aDJ bl (i9 d 0 (p :: es) (r x :: rs x)) (kw (thaw d (y x)) (i9 d 0 (p :: es) (r x :: rs x))):=by
 unfold DY
 rw [h]
 cases o with
 | none=>rfl
 | some x =>
  simp only [ä,À,uJ,YV,hn x,Č,Û]
  split
  ·obtain ⟨e,s⟩:=p; rfl
  ·rfl
end
end Vm
end
section
namespace Vm
open Go.RowKit
section
variable {β:Type} {T:CJ} {d:Nat} {fr:List (Nat × V)} {bl:List (Nat × Option aL)} {k:V->Option β} {kw:V->List (Nat × Option aL)->Option β}
def aDr (b:Option aL) (x:Option β):Option β:=match b with
 | some (.box _)=>x
 | some (.fbox _)=>x
 | _=>none
theorem aIm (cs:List V) (x:Option β):aDr (some (.box cs)) x = x:=rfl
def aRh:Option aL->Bool
 | some (.box _)=>true
 | some (.fbox _)=>true
 | _=>false
theorem aLv (b:Option aL) (x:Option β):aDr b x = if aRh b = true then x else none:=by
 cases b with
 | none=>rfl
 | some b=>cases b <;> rfl
def aJ9 (v:V) (bl:List (Nat × Option aL)) (k:V->Option β):Option β:=match v with
 | .ptr id off=>cG bl id fun b=>aDr b (k (.ptr id off))
 | _=>none
theorem aMv (id off:Nat):aJ9 (.ptr id off) bl k = cG bl id fun b=>aDr b (k (.ptr id off)):=rfl
def SP (fr:List (Nat × V)) (bl:List (Nat × Option aL)):List d7->(List V->Option β)->Option β
 | [],k=>k []
 | x :: l,k=>fA fr x fun v=>aJ9 v bl fun u=>SP fr bl l fun us=>k (u :: us)
theorem aFi (k:List V->Option β):SP fr bl [] k = k []:=rfl
theorem WL (x:d7) (l:List d7) (k:List V->Option β):SP fr bl (x :: l) k = fA fr x fun v=>aJ9 v bl fun u=>SP fr bl l fun us=>k (u :: us):=rfl
theorem aPh (v:V):aJ9 v bl k = if VD (lk bl none) v = true then k v else none:=by
 cases v with
 | ptr id off =>
  show aDr (lk bl none id) (k (.ptr id off)) = if VD (lk bl none) (.ptr id off) = true then _ else _
  have:VD (lk bl none) (.ptr id off) = aRh (lk bl none id):=by
   show (match lk bl none id with | some (.box _)=>true | some (.fbox _)=>true | _=>false) = aRh (lk bl none id)
   cases lk bl none id with
   | none=>rfl
   | some b=>cases b <;> rfl
  rw [this]
  exact aLv _ _
 | _=>rfl
theorem aHq (l:List d7):∀ (k:List V->Option β),SP fr bl l k = if (l.map (cZ (lk fr .any))).all (VD (lk bl none)) = true then k (l.map (cZ (lk fr .any))) else none:=by
 induction l with
 | nil=>intro k; rfl
 | cons x l ih =>
  intro k
  rw [WL]
  unfold fA
  show aJ9 (cZ (lk fr .any) x) bl (fun u=>SP fr bl l fun us=>k (u :: us)) = _
  rw [aPh,ø,š]
  cases VD (lk bl none) (cZ (lk fr .any) x) with
  | false=>rfl
  | true =>
   rw [Á rfl,ih,ķ]
theorem aI8 (f:Nat) (caps:List d7):FS T d (.mkfnv f caps) fr bl k kw = SP fr bl caps fun vs=>k (.fn f vs):=by
 rw [aHq]
 unfold FS
 simp only [iB]
 split
 ·rename_i h
  split at h
  ·cases h
  ·rename_i hc; rw [Ã hc]
 ·rename_i v h
  split at h
  ·rename_i hc
   cases h
   rw [Á hc]
  ·cases h
 ·rename_i v p wr h
  split at h
  ·cases h
  ·cases h
def aLG (keep:List Nat) (id:Nat) (b:Option aL) (x y:Option β):Option β:=match b with
 | some (.box _)=>oH keep id x y
 | _=>y
theorem aJF (keep:List Nat) (id:Nat) (cs:List V) (x y:Option β):aLG keep id (some (.box cs)) x y = oH keep id x y:=rfl
def aPy (keep:List Nat) (id:Nat):Option aL->Bool
 | some (.box _)=>keep.contains id
 | _=>false
theorem aNe (keep:List Nat) (id:Nat) (b:Option aL) (x y:Option β):aLG keep id b x y = if aPy keep id b = true then x else y:=by
 cases b with
 | none=>rfl
 | some b=>cases b <;> rfl
def fnK (keep:List Nat) (bl:List (Nat × Option aL)):List V->Option β->Option β->Option β
 | [],x,_=>x
 | .ptr id _ :: l,x,y=>cG bl id fun b=>aLG keep id b (fnK keep bl l x y) y
 | _ :: _,_,y=>y
theorem aND (keep:List Nat) (x y:Option β):fnK keep bl [] x y = x:=rfl
theorem aG1 (keep:List Nat) (id off:Nat) (l:List V) (x y:Option β):fnK keep bl (.ptr id off :: l) x y = cG bl id fun b=>aLG keep id b (fnK keep bl l x y) y:=rfl
theorem aJZ (keep:List Nat) (x y:Option β):∀ l:List V,fnK keep bl l x y = if l.all (aGL keep (lk bl none)) = true then x else y
 | []=>rfl
 | v :: l=>by
  rw [š]
  cases v with
  | ptr id off =>
   rw [aG1]
   show aLG keep id (lk bl none id) (fnK keep bl l x y) y = _
   have:aGL keep (lk bl none) (.ptr id off) = aPy keep id (lk bl none id):=by
    show (match lk bl none id with | some (.box _)=>keep.contains id | _=>false) = aPy keep id (lk bl none id)
    cases lk bl none id with
    | none=>rfl
    | some b=>cases b <;> rfl
   rw [aNe,aJZ keep x y l,this]
   cases aPy keep id (lk bl none id) <;> rfl
  | _=>rfl
theorem aJJ (keep:List Nat) (f:Nat) (vs:List V):GZ keep bl (.fn f vs) k = fnK keep bl vs (k (.fn f vs)) (k .any):=by
 rw [aJZ]
 unfold GZ
 simp only [RJ,aAD,DC]
 split <;> rfl
def X8 (f nc:Nat) (v:V) (k:List V->Option β):Option β:=(L8 f nc v).bind k
theorem aI9 (f nc g:Nat) (vs:List V) (k:List V->Option β):X8 f nc (.fn g vs) k = if g = f ∧ vs.length = nc then k vs else none:=by
 unfold X8 L8
 simp only
 split <;> rfl
def aTK (x:d7) (nc f:Nat) (args:List d7) (id:Nat) (slots:List Nat) (fr:List (Nat × V)) (bl:List (Nat × Option aL)) (k:List (Nat × V)->List (Nat × Option aL)->Option β):Option β :=
 fA fr x fun v=>X8 f nc v fun caps=>cG bl id fun b=>jX b (GQ fr slots fun cs=>OE fr args fun vs=>k (sV 0 (vs ++ caps)) ((id,some (.outer cs)) :: bl))
def aTt (x:d7) (nc f:Nat) (args:List d7) (id:Nat) (slots:List Nat) (s:St) (k:List (Nat × V)->List (Nat × Option aL)->Option β):Option β:=aTK x nc f args id slots s.fr s.bl k
theorem aGf (x:d7) (nc f:Nat) (args:List d7) (id:Nat) (slots:List Nat) (k:List (Nat × V)->List (Nat × Option aL)->Option β):aTt x nc f args id slots ⟨fr,bl⟩ k = fA fr x fun v=>X8 f nc v fun caps=>cG bl id fun b=>jX b (GQ fr slots fun cs=>OE fr args fun vs=>k (sV 0 (vs ++ caps)) ((id,some (.outer cs)) :: bl)):=rfl
theorem aJR {k:Ex->St->Option β} (ops:List aS) (x:d7) (nc:Nat) (args:List d7) (dst:Option Nat) (f:Nat) (body:aH) (res:List qU) (id:Nat) (slots:List Nat) (s:St) :
  bD T (.inlv ops x nc args dst f body res id slots) s k = AW T ops s fun s1=>(L8 f nc (cZ s1.get x)).bind fun caps=>(JD (args.map (cZ s1.get) ++ caps) id slots s1).bind fun s2=>bD T body s2 fun ex s3=>match ex with
   | .exit _=>none
   | _=>(pS dst res id slots s3).bind fun s4=>k .normal s4:=by
 unfold bD AW
 rw [aPt]
 cases lA (call T) ops s with
 | none=>rfl
 | some s1 =>
  simp only [À]
  cases L8 f nc (cZ s1.get x) with
  | none=>rfl
  | some caps =>
   simp only [À]
   cases JD (args.map (cZ s1.get) ++ caps) id slots s1 with
   | none=>rfl
   | some s2 =>
    simp only [À]
    cases ev T body s2 with
    | none=>rfl
    | some q =>
     obtain ⟨e,s3⟩:=q
     cases e with
     | normal=>simp only [À]; cases pS dst res id slots s3 <;> rfl
     | exit i=>rfl
     | ret=>simp only [À]; cases pS dst res id slots s3 <;> rfl
theorem aKv {k:Ex->St->Option β} (ops:List aS) (x:d7) (nc:Nat) (args:List d7) (dst:Option Nat) (f:Nat) (body:aH) (res:List qU) (id:Nat) (slots:List Nat) :
  bD T (.inlv ops x nc args dst f body res id slots) ⟨fr,bl⟩ k = AW T ops ⟨fr,bl⟩ fun s1=>aTt x nc f args id slots s1 fun fr' bl'=>bD T body ⟨fr',bl'⟩ (XP dst res id slots k):=by
 rw [aJR]
 congr 1
 funext s1
 obtain ⟨fr1,bl1⟩:=s1
 rw [aGf]
 unfold fA X8
 show (L8 f nc (cZ (lk fr1 .any) x)).bind _ = (L8 f nc (cZ (lk fr1 .any) x)).bind _
 congr 1
 funext caps
 unfold JD cG jX
 rw [U9]
 cases hb:lk bl1 none id with
 | some b=>rfl
 | none =>
  simp only [Option.isNone_none,Č,À,VR,YJ]
  congr 1
  funext ex s3
  cases ex <;> rfl
end
end Vm
end
section
namespace Vm
open Go.RowKit Vm
def UJ (rows:List (List D)):Bool:=rows.all fun row=>row.all D.atom
def aBs (E size bytes:Nat):List D->Option D
 | [.sl rows]=>if sized size rows = true ∧ UJ rows = true ∧ rows.length * bytes <= 140737488355328 then some (.own (.ref 0) [(E,size)] [rows]) else none
 | _=>none
theorem aJD {α:Type} (c:α->List D) (xs:List α) (h:∀ x,(c x).all D.atom = true):UJ (cM c xs) = true:=by
 unfold UJ cM
 rw [Ó]
 intro row hr
 obtain ⟨x,_,rfl⟩:=Ú.1 hr
 exact h x
end Vm
end
end Go.Proofs.Ytgjcnbgfaimepaa
