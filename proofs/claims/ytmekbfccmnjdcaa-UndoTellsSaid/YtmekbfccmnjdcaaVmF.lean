/- The small machine, read from the front: slices that are laid out, calls, masks, answers. The small machine, read from the front: regions whose order is drawn. The small machine, read from the front: slices that are lent, cut, cleared. -/
import Derived.Test.YtmekbfccmnjdcaaVmE
set_option linter.unusedVariables false
set_option linter.unusedSimpArgs false
namespace Go.Proofs.Ytmekbfccmnjdcaa
namespace Vm
open Go.RowKit
section
variable {β:Type} {T:Tbl} {d:Nat} {fr:List (Nat × V)} {bl:List (Nat × Option Blk)} {k:V→Option β} {kw:V→List (Nat × Option Blk)→Option β}
def rowCK (bl:List (Nat × Option Blk)):List V→(List D→List (Nat × Option Blk)→Option β)→Option β
 | [],k=>k [] []
 | v :: cs,k=>(toD1 (lk bl none) v).bind fun x=>rowCK bl cs fun ds f=>k (x :: ds) (fz1 (lk bl none) v ++ f)
theorem rowCK_eq (cs:List V) (k:List D→List (Nat × Option Blk)→Option β):rowCK bl cs k = (mapM' (toD1 (lk bl none)) cs).bind fun ds=>k ds (cs.flatMap (fz1 (lk bl none))):=by
 induction cs generalizing k with
 | nil=>rfl
 | cons v cs ih =>
  simp only [rowCK,mapM',ih,List.flatMap_cons]
  cases toD1 (lk bl none) v with
  | none=>rfl
  | some x=>cases mapM' (toD1 (lk bl none)) cs <;> rfl
def d1K (v:V) (bl:List (Nat × Option Blk)) (k:D→List (Nat × Option Blk)→Option β):Option β:=(toD1 (lk bl none) v).bind fun x=>k x (fz1 (lk bl none) v)
theorem d1K_d (x:D) (k:D→List (Nat × Option Blk)→Option β):d1K (.d x) bl k = k x []:=rfl
theorem d1K_nil (k:D→List (Nat × Option Blk)→Option β):d1K .nil bl k = k (.sl []) []:=rfl
def d1B (id ver:Nat) (b:Option Blk) (k:D→List (Nat × Option Blk)→Option β):Option β:=match b with
 | some (.rows v _ _ rows)=>if ver = v then k (.sl rows) [(id,some (.froz v rows))] else none
 | some (.froz v rows)=>if ver = v then k (.sl rows) [] else none
 | _=>none
theorem d1K_own (id ver:Nat) (k:D→List (Nat × Option Blk)→Option β):d1K (.own id ver) bl k = blkK bl id fun b=>d1B id ver b k:=by
 unfold d1K blkK d1B
 simp only [toD1,fz1,toD0,fz0]
 generalize lk bl none id = b
 cases b with
 | none=>rfl
 | some b=>cases b with
  | rows v e s rows=>simp only; by_cases h:ver = v <;> simp [h]
  | froz v rows=>simp only; by_cases h:ver = v <;> simp [h]
  | _=>rfl
theorem d1B_rows (id v e s:Nat) (rows:List (List D)) (k:D→List (Nat × Option Blk)→Option β):d1B id v (some (.rows v e s rows)) k = k (.sl rows) [(id,some (.froz v rows))]:=if_pos rfl
theorem d1B_froz (id v:Nat) (rows:List (List D)) (k:D→List (Nat × Option Blk)→Option β):d1B id v (some (.froz v rows)) k = k (.sl rows) []:=if_pos rfl
def rowC0K (bl:List (Nat × Option Blk)):List V→(List D→List (Nat × Option Blk)→Option β)→Option β
 | [],k=>k [] []
 | v :: cs,k=>(toD0 (lk bl none) v).bind fun x=>rowC0K bl cs fun ds f=>k (x :: ds) (fz0 (lk bl none) v ++ f)
theorem rowC0K_eq (cs:List V) (k:List D→List (Nat × Option Blk)→Option β):rowC0K bl cs k = (mapM' (toD0 (lk bl none)) cs).bind fun ds=>k ds (cs.flatMap (fz0 (lk bl none))):=by
 induction cs generalizing k with
 | nil=>rfl
 | cons v cs ih =>
  simp only [rowC0K,mapM',ih,List.flatMap_cons]
  cases toD0 (lk bl none) v with
  | none=>rfl
  | some x=>cases mapM' (toD0 (lk bl none)) cs <;> rfl
theorem rowC0K_nil (k:List D→List (Nat × Option Blk)→Option β):rowC0K bl [] k = k [] []:=rfl
theorem rowC0K_d (x:D) (cs:List V) (k:List D→List (Nat × Option Blk)→Option β):rowC0K bl (.d x :: cs) k = rowC0K bl cs fun ds f=>k (x :: ds) f:=rfl
theorem rowC0K_n (cs:List V) (k:List D→List (Nat × Option Blk)→Option β):rowC0K bl (.nil :: cs) k = rowC0K bl cs fun ds f=>k (.sl [] :: ds) f:=rfl
theorem rowC0K_own (id ver:Nat) (cs:List V) (k:List D→List (Nat × Option Blk)→Option β):rowC0K bl (.own id ver :: cs) k = d1K (.own id ver) bl fun x g=>rowC0K bl cs fun ds f=>k (x :: ds) (g ++ f):=rfl
theorem rowC0K_dcells (ds:List D) (k:List D→List (Nat × Option Blk)→Option β):rowC0K bl (dcells ds) k = k ds []:=by
 have:∀ (ds:List D) (k:List D→List (Nat × Option Blk)→Option β),rowC0K bl (dcells ds) k = k ds []:=by
  intro ds
  induction ds with
  | nil=>intro k; rfl
  | cons x ds ih=>intro k; show rowC0K bl (dcells ds) _ = _; rw [ih]; rfl
 exact this ds k
def d1P (id off:Nat) (b:Option Blk) (bl:List (Nat × Option Blk)) (k:D→List (Nat × Option Blk)→Option β):Option β:=match b with
 | some (.box cs)=>rowC0K bl cs fun ds f=>k (.ptr ds off) ((id,some (.fbox ds)) :: f)
 | some (.fbox ds)=>k (.ptr ds off) []
 | _=>none
theorem d1K_ptr (id off:Nat) (k:D→List (Nat × Option Blk)→Option β):d1K (.ptr id off) bl k = blkK bl id fun b=>d1P id off b bl k:=by
 unfold d1K blkK d1P
 simp only [toD1,fz1]
 cases lk bl none id with
 | none=>rfl
 | some b=>cases b with
  | box cs =>
   simp only [rowC0K_eq]
   cases mapM' (toD0 (lk bl none)) cs <;> rfl
  | _=>rfl
theorem d1P_box (id off:Nat) (c:V) (cs:List V) (k:D→List (Nat × Option Blk)→Option β):d1P id off (some (.box (c :: cs))) bl k = rowC0K bl (c :: cs) fun ds f=>k (.ptr ds off) ((id,some (.fbox ds)) :: f):=rfl
theorem d1P_packed (id off:Nat) (ds:List D) (k:D→List (Nat × Option Blk)→Option β):d1P id off (some (.box (dcells ds))) bl k = k (.ptr ds off) [(id,some (.fbox ds))]:=by
 show rowC0K bl (dcells ds) _ = _
 rw [rowC0K_dcells]
theorem d1P_fbox (id off:Nat) (ds:List D) (k:D→List (Nat × Option Blk)→Option β):d1P id off (some (.fbox ds)) bl k = k (.ptr ds off) []:=rfl
theorem rowCK_ptr (id off:Nat) (cs:List V) (k:List D→List (Nat × Option Blk)→Option β):rowCK bl (.ptr id off :: cs) k = d1K (.ptr id off) bl fun x g=>rowCK bl cs fun ds f=>k (x :: ds) (g ++ f):=rfl
theorem rowCK_nil (k:List D→List (Nat × Option Blk)→Option β):rowCK bl [] k = k [] []:=rfl
theorem rowCK_d (x:D) (cs:List V) (k:List D→List (Nat × Option Blk)→Option β):rowCK bl (.d x :: cs) k = rowCK bl cs fun ds f=>k (x :: ds) f:=rfl
theorem rowCK_n (cs:List V) (k:List D→List (Nat × Option Blk)→Option β):rowCK bl (.nil :: cs) k = rowCK bl cs fun ds f=>k (.sl [] :: ds) f:=rfl
theorem rowCK_own (id ver:Nat) (cs:List V) (k:List D→List (Nat × Option Blk)→Option β):rowCK bl (.own id ver :: cs) k = d1K (.own id ver) bl fun x g=>rowCK bl cs fun ds f=>k (x :: ds) (g ++ f):=rfl
theorem rowCK_dcells (ds:List D) (k:List D→List (Nat × Option Blk)→Option β):rowCK bl (dcells ds) k = k ds []:=by
 have:∀ (ds:List D) (k:List D→List (Nat × Option Blk)→Option β),rowCK bl (dcells ds) k = k ds []:=by
  intro ds
  induction ds with
  | nil=>intro k; rfl
  | cons x ds ih=>intro k; show rowCK bl (dcells ds) _ = _; rw [ih]; rfl
 exact this ds k
def toDK (v:V) (bl:List (Nat × Option Blk)) (k:D→List (Nat × Option Blk)→Option β):Option β:=(toD2 (lk bl none) v).bind fun x=>k x (fz2 (lk bl none) v)
theorem toDK_d (x:D) (k:D→List (Nat × Option Blk)→Option β):toDK (.d x) bl k = k x []:=rfl
theorem toDK_nil (k:D→List (Nat × Option Blk)→Option β):toDK .nil bl k = k (.sl []) []:=rfl
theorem toDK_own (id ver:Nat) (k:D→List (Nat × Option Blk)→Option β):toDK (.own id ver) bl k = d1K (.own id ver) bl k:=rfl
theorem toDK_ptr (id off:Nat) (k:D→List (Nat × Option Blk)→Option β):toDK (.ptr id off) bl k = d1K (.ptr id off) bl k:=rfl
theorem toDK_agg (cs:List V) (k:D→List (Nat × Option Blk)→Option β):toDK (.agg cs) bl k = rowCK bl cs fun ds f=>k (.agg ds) f:=by
 rw [rowCK_eq]
 show ((mapM' (toD1 (lk bl none)) cs).map D.agg).bind _ = _
 cases mapM' (toD1 (lk bl none)) cs <;> rfl
theorem toDK_aggD (ds:List D) (k:D→List (Nat × Option Blk)→Option β):toDK (aggD ds) bl k = k (.agg ds) []:=by
 show toDK (.agg (dcells ds)) bl k = _
 rw [toDK_agg,rowCK_dcells]
theorem rowK_d (x:D) (k:List D→List (Nat × Option Blk)→Option β):rowK (.d x) bl k = k [x] []:=rfl
theorem rowK_agg (cs:List V) (k:List D→List (Nat × Option Blk)→Option β):rowK (.agg cs) bl k = rowCK bl cs k:=by
 rw [rowCK_eq]
 show (match mapM' (toD1 (lk bl none)) cs with | some row=>k row (cs.flatMap (fz1 (lk bl none))) | none=>none) = _
 cases mapM' (toD1 (lk bl none)) cs <;> rfl
theorem rowK_aggD (ds:List D) (k:List D→List (Nat × Option Blk)→Option β):rowK (aggD ds) bl k = k ds []:=by
 show rowK (.agg (dcells ds)) bl k = _
 rw [rowK_agg,rowCK_dcells]
theorem rowK_nil (k:List D→List (Nat × Option Blk)→Option β):rowK .nil bl k = k [.sl []] []:=rfl
theorem rowK_own (id ver:Nat) (k:List D→List (Nat × Option Blk)→Option β):rowK (.own id ver) bl k = d1K (.own id ver) bl fun x f=>k [x] f:=by
 unfold rowK d1K
 show (match mapM' (toD1 (lk bl none)) [.own id ver] with | some row=>k row (fz1 (lk bl none) (.own id ver)) | none=>none) = _
 simp only [mapM']
 cases toD1 (lk bl none) (.own id ver) <;> rfl
def setK (rs:List (List D)) (i:Nat) (row:List D) (k:List (List D)→Option β):Option β:=if i < rs.length then k (rs.set i row) else none
theorem setK_z (r:List D) (rs:List (List D)) (row:List D) (k:List (List D)→Option β):setK (r :: rs) 0 row k = k (row :: rs):=by simp [setK]
theorem setK_s (r:List D) (rs:List (List D)) (i:Nat) (row:List D) (k:List (List D)→Option β):setK (r :: rs) (i + 1) row k = setK rs i row fun l=>k (r :: l):=by
 unfold setK
 simp only [List.length_cons,List.set_cons_succ]
 by_cases h:i < rs.length
 ·rw [if_pos h,if_pos (by omega)]
 ·rw [if_neg h,if_neg (by omega)]
def bsF (fr:List (Nat × V)) (bl:List (Nat × Option Blk)) (size:Nat) (rs:List (List D)):List (Nat × Opd)→List (Nat × Option Blk)→(List (List D)→List (Nat × Option Blk)→Option β)→Option β
 | [],wr,k=>k rs wr
 | (i,x) :: r,wr,k=>opdK fr x fun v=>rowK v bl fun row f=>sizeK row size (setK rs i row fun rs'=>bsF fr bl size rs' r (wr ++ f) k)
theorem bsF_nil (size:Nat) (rs:List (List D)) (wr:List (Nat × Option Blk)) (k:List (List D)→List (Nat × Option Blk)→Option β):bsF fr bl size rs [] wr k = k rs wr:=rfl
theorem bsF_cons (size:Nat) (rs:List (List D)) (i:Nat) (x:Opd) (r:List (Nat × Opd)) (wr:List (Nat × Option Blk)) (k:List (List D)→List (Nat × Option Blk)→Option β):bsF fr bl size rs ((i,x) :: r) wr k = opdK fr x fun v=>rowK v bl fun row f=>sizeK row size (setK rs i row fun rs'=>bsF fr bl size rs' r (wr ++ f) k):=rfl
theorem bsF_eq (size:Nat) (parts:List (Nat × Opd)):∀ (rs:List (List D)) (wr:List (Nat × Option Blk)) (k:List (List D)→List (Nat × Option Blk)→Option β),bsF fr bl size rs parts wr k = (fillRows (lk bl none) size rs (parts.map fun p=>(p.1,evo (lk fr .any) p.2))).bind fun rs'=>k rs' (wr ++ parts.flatMap fun p=>fz2 (lk bl none) (evo (lk fr .any) p.2)):=by
 induction parts with
 | nil=>intro rs wr k; simp [bsF,fillRows]
 | cons p r ih =>
  intro rs wr k
  obtain ⟨i,x⟩:=p
  simp only [bsF,opdK,rowK,List.map_cons,fillRows,List.flatMap_cons]
  cases mapM' (toD1 (lk bl none)) (evo (lk fr .any) x).cells with
  | none=>rfl
  | some row =>
   simp only [sizeK,setK]
   by_cases h1:row.length = size
   ·by_cases h2:i < rs.length
    ·rw [if_pos h1,if_pos h2,if_pos ⟨h1,h2⟩,ih,List.append_assoc]
    ·rw [if_pos h1,if_neg h2,if_neg (fun q=>h2 q.2)]; rfl
   ·rw [if_neg h1,if_neg (fun q=>h1 q.1)]; rfl
theorem opK_buildSlice (e size n:Nat) (z:List D) (parts:List (Nat × Opd)):opK T d (.buildSlice e size z n parts) fr bl k kw = blkK bl d fun b=>noneK b (bsF fr bl size (List.replicate n z) parts [] fun rows wr=>bsK e rows fun rows=>kw (.own d 0) ((d,some (.rows 0 e size rows)) :: wr)):=by
 rw [opK_ans]
 unfold blkK noneK bsK
 simp only [aop,bsF_eq,List.nil_append]
 cases lk bl none d with
 | some b=>rfl
 | none =>
  simp only
  have e1:(parts.map fun x=>match x with | (i,x)=>(i,evo (lk fr .any) x)) = parts.map fun p=>(p.1,evo (lk fr .any) p.2):=rfl
  have e2:(parts.flatMap fun x=>match x with | (_,x)=>fz2 (lk bl none) (evo (lk fr .any) x)) = parts.flatMap fun p=>fz2 (lk bl none) (evo (lk fr .any) p.2):=rfl
  rw [e1,e2]
  cases fillRows (lk bl none) size (List.replicate n z) (parts.map fun p=>(p.1,evo (lk fr .any) p.2)) <;> rfl
theorem makeSlice_gen {α:Type} (e size bytes:Nat) (z:List D) (c:α→List D) (x:α) (hz:z = c x) (l cp:Opd):opK T d (.makeSlice e size bytes z l cp) fr bl k kw = blkK bl d fun b=>noneK b (opdK fr l fun a=>opdK fr cp fun b=>match a,b with
   | .d (.int _ n),.d (.int _ m)=>if 0 ≤ n ∧ n ≤ m ∧ (bytes:Int) * m ≤ 281474976710656 ∧ m ≤ 9223372036854775807 then kw (.own d 0) [(d,some (.rows 0 e size (cM c (List.replicate n.toNat x))))] else none
   | _,_=>none):=by
 subst hz
 rw [opK_ans]
 unfold blkK noneK opdK
 simp only [aop,cM_replicate]
 generalize evo (lk fr .any) l = a
 generalize evo (lk fr .any) cp = b
 cases lk bl none d with
 | some b=>rfl
 | none =>
  simp only
  split
  ·rename_i n _ m
   simp only
   by_cases h:0 ≤ n ∧ n ≤ m ∧ (bytes:Int) * m ≤ 281474976710656 ∧ m ≤ 9223372036854775807
   ·rw [if_pos h,if_pos h]; rfl
   ·rw [if_neg h,if_neg h]; rfl
  ·rename_i h
   split
   ·rename_i n _ m
    exact absurd rfl (h _ _ _ _ rfl)
   ·rfl
def argsF (fr:List (Nat × V)) (bl:List (Nat × Option Blk)):List Opd→(List D→List (Nat × Option Blk)→Option β)→Option β
 | [],k=>k [] []
 | x :: l,k=>opdK fr x fun v=>toDK v bl fun y f=>argsF fr bl l fun ds g=>k (y :: ds) (f ++ g)
theorem argsF_nil (k:List D→List (Nat × Option Blk)→Option β):argsF fr bl [] k = k [] []:=rfl
theorem argsF_cons (x:Opd) (l:List Opd) (k:List D→List (Nat × Option Blk)→Option β):argsF fr bl (x :: l) k = opdK fr x fun v=>toDK v bl fun y f=>argsF fr bl l fun ds g=>k (y :: ds) (f ++ g):=rfl
theorem argsF_eq (l:List Opd) (k:List D→List (Nat × Option Blk)→Option β):argsF fr bl l k = (mapM' (fun x=>toD2 (lk bl none) (evo (lk fr .any) x)) l).bind fun ds=>k ds (l.flatMap fun x=>fz2 (lk bl none) (evo (lk fr .any) x)):=by
 induction l generalizing k with
 | nil=>rfl
 | cons x l ih =>
  simp only [argsF,opdK,toDK,mapM',ih,List.flatMap_cons]
  cases toD2 (lk bl none) (evo (lk fr .any) x) with
  | none=>rfl
  | some y=>cases mapM' (fun x=>toD2 (lk bl none) (evo (lk fr .any) x)) l <;> rfl
def fzK (fz:List (Nat × Option Blk)) (v:V) (k:V→Option β) (kw:V→List (Nat × Option Blk)→Option β):Option β:=match fz with
 | []=>k v
 | p :: w=>kw v (p :: w)
theorem fzK_nil (v:V):fzK [] v k kw = k v:=rfl
theorem fzK_an (l:List (Nat × Option Blk)) (v:V):fzK ([] ++ l) v k kw = fzK l v k kw:=rfl
theorem fzK_ac (p:Nat × Option Blk) (w l:List (Nat × Option Blk)) (v:V):fzK ((p :: w) ++ l) v k kw = kw v ((p :: w) ++ l):=rfl
theorem fzK_cons (p:Nat × Option Blk) (w:List (Nat × Option Blk)) (v:V):fzK (p :: w) v k kw = kw v (p :: w):=rfl
noncomputable def callF (T:Tbl) (d:Nat) (bl:List (Nat × Option Blk)) (f:Nat) (ds:List D) (fz:List (Nat × Option Blk)) (k:V→Option β) (kw:V→List (Nat × Option Blk)→Option β):Option β:=match call T f ds with
 | none=>none
 | some r=>ansK (callRes d (lk bl none) fz r) k kw
theorem opK_call (f:Nat) (args:List Opd):opK T d (.call f args) fr bl k kw = argsF fr bl args fun ds fz=>callF T d bl f ds fz k kw:=by
 rw [opK_ans,argsF_eq]
 simp only [aop]
 cases mapM' (fun x=>toD2 (lk bl none) (evo (lk fr .any) x)) args with
 | none=>rfl
 | some ds =>
  simp only [Option.bind_some,callF]
  cases call T f ds <;> rfl
def D.calm:D→Bool
 | .own _ _ _=>false
 | _=>true
theorem calm_of {x:D} (h:x.calm = true):∀ y es rs,x ≠ .own y es rs:=fun y es rs e=>by rw [e] at h; cases h
theorem calm_flat {x:D} (h:flat x = true):x.calm = true:=by cases x <;> first | rfl | cases h
theorem callF_flat {α:Type} {f:Nat} {ds:List D} {o:Option α} {enc:α→D} (h:call T f ds = o.map enc) (hf:∀ x,flat (enc x) = true) (fz:List (Nat × Option Blk)):callF T d bl f ds fz k kw = o.bind fun x=>k (toV (enc x)):=by
 unfold callF
 rw [h]
 cases o with
 | none=>rfl
 | some x=>simp only [Option.map_some,Option.bind_some]; rw [callRes_of (calm_of (calm_flat (hf x))),if_pos (hf x)]; rfl
theorem callF_deep {α:Type} {f:Nat} {ds:List D} {o:Option α} {enc:α→D} (h:call T f ds = o.map enc) (hf:∀ x,flat (enc x) = false) (hc:∀ x,(enc x).calm = true) (fz:List (Nat × Option Blk)):callF T d bl f ds fz k kw = o.bind fun x=>fzK fz (toV (enc x)) k kw:=by
 unfold callF
 rw [h]
 cases o with
 | none=>rfl
 | some x=>simp only [Option.map_some,Option.bind_some]; rw [callRes_of (calm_of (hc x)),if_neg (by rw [hf x]; decide)]; cases fz <;> rfl
def freeL (bl:List (Nat × Option Blk)):List (Nat × Option Blk)→Option β→Option β
 | [],x=>x
 | (i,_) :: l,x=>blkK bl i fun b=>noneK b (freeL bl l x)
theorem freeL_eq (bl:List (Nat × Option Blk)) (x:Option β):∀ (l:List (Nat × Option Blk)),freeL bl l x = if freeB (lk bl none) l = true then x else none
 | []=>rfl
 | (i,b) :: l=>by
  cases h:lk bl none i <;> simp [freeL,freeB,blkK,noneK,freeL_eq bl x l,h]
theorem callF_own {α:Type} {f:Nat} {ds:List D} {o:Option α} {y:α→D} {p:Nat × Nat} {es:List (Nat × Nat)} {r:α→List (List D)} {rs:α→List (List (List D))} (h:call T f ds = o.map fun x=>.own (y x) (p :: es) (r x :: rs x)) (fz:List (Nat × Option Blk)) :
  callF T d bl f ds fz k kw = o.bind fun x=>freeL bl (newBlks d 0 (p :: es) (r x :: rs x)) (kw (thaw d (y x)) (newBlks d 0 (p :: es) (r x :: rs x) ++ fz)):=by
 unfold callF
 rw [h]
 cases o with
 | none=>rfl
 | some x =>
  simp only [Option.map_some,Option.bind_some,callRes,freeL_eq]
  split
  ·obtain ⟨e,s⟩:=p; rfl
  ·rfl
def capsF (fr:List (Nat × V)) (bl:List (Nat × Option Blk)):List Opd→(List D→List (Nat × Option Blk)→Option β)→Option β
 | [],k=>k [] []
 | x :: l,k=>opdK fr x fun v=>d1K v bl fun y f=>capsF fr bl l fun ds g=>k (y :: ds) (f ++ g)
theorem capsF_nil (k:List D→List (Nat × Option Blk)→Option β):capsF fr bl [] k = k [] []:=rfl
theorem capsF_cons (x:Opd) (l:List Opd) (k:List D→List (Nat × Option Blk)→Option β):capsF fr bl (x :: l) k = opdK fr x fun v=>d1K v bl fun y f=>capsF fr bl l fun ds g=>k (y :: ds) (f ++ g):=rfl
theorem capsF_eq (l:List Opd) (k:List D→List (Nat × Option Blk)→Option β):capsF fr bl l k = (mapM' (fun x=>toD1 (lk bl none) (evo (lk fr .any) x)) l).bind fun ds=>k ds (l.flatMap fun x=>fz1 (lk bl none) (evo (lk fr .any) x)):=by
 induction l generalizing k with
 | nil=>rfl
 | cons x l ih =>
  simp only [capsF,opdK,d1K,mapM',ih,List.flatMap_cons]
  cases toD1 (lk bl none) (evo (lk fr .any) x) with
  | none=>rfl
  | some y=>cases mapM' (fun x=>toD1 (lk bl none) (evo (lk fr .any) x)) l <;> rfl
theorem opK_mkfn (f:Nat) (caps:List Opd):opK T d (.mkfn f caps) fr bl k kw = capsF fr bl caps fun ds fz=>fzK fz (.d (.fn f ds)) k kw:=by
 rw [opK_ans,capsF_eq]
 simp only [aop]
 cases mapM' (fun x=>toD1 (lk bl none) (evo (lk fr .any) x)) caps with
 | none=>rfl
 | some ds =>
  simp only [Option.bind_some]
  cases caps.flatMap fun x=>fz1 (lk bl none) (evo (lk fr .any) x) <;> rfl
def argsV (fr:List (Nat × V)) (bl:List (Nat × Option Blk)) (caps:List D):List Opd→(List D→List (Nat × Option Blk)→Option β)→Option β
 | [],k=>k caps []
 | x :: l,k=>opdK fr x fun v=>toDK v bl fun y f=>argsV fr bl caps l fun ds g=>k (y :: ds) (f ++ g)
theorem argsV_nil (caps:List D) (k:List D→List (Nat × Option Blk)→Option β):argsV fr bl caps [] k = k caps []:=rfl
theorem argsV_cons (caps:List D) (x:Opd) (l:List Opd) (k:List D→List (Nat × Option Blk)→Option β):argsV fr bl caps (x :: l) k = opdK fr x fun v=>toDK v bl fun y f=>argsV fr bl caps l fun ds g=>k (y :: ds) (f ++ g):=rfl
theorem argsV_eq (caps:List D) (l:List Opd) (k:List D→List (Nat × Option Blk)→Option β):argsV fr bl caps l k = (mapM' (fun x=>toD2 (lk bl none) (evo (lk fr .any) x)) l).bind fun ds=>k (ds ++ caps) (l.flatMap fun x=>fz2 (lk bl none) (evo (lk fr .any) x)):=by
 induction l generalizing k with
 | nil=>rfl
 | cons x l ih =>
  simp only [argsV,opdK,toDK,mapM',ih,List.flatMap_cons]
  cases toD2 (lk bl none) (evo (lk fr .any) x) with
  | none=>rfl
  | some y=>cases mapM' (fun x=>toD2 (lk bl none) (evo (lk fr .any) x)) l <;> rfl
noncomputable def callvK (T:Tbl) (d:Nat) (v:V) (args:List Opd) (fr:List (Nat × V)) (bl:List (Nat × Option Blk)) (k:V→Option β) (kw:V→List (Nat × Option Blk)→Option β):Option β:=match v with
 | .d (.fn f caps)=>argsV fr bl caps args fun ds fz=>callF T d bl f ds fz k kw
 | _=>none
theorem callvK_f (f:Nat) (caps:List D) (args:List Opd):callvK T d (.d (.fn f caps)) args fr bl k kw = argsV fr bl caps args fun ds fz=>callF T d bl f ds fz k kw:=rfl
theorem opK_callv (g:Opd) (args:List Opd):opK T d (.callv g args) fr bl k kw = opdK fr g fun v=>callvK T d v args fr bl k kw:=by
 rw [opK_ans]
 unfold opdK
 simp only [aop]
 generalize evo (lk fr .any) g = v
 cases v with
 | d x=>cases x with
  | fn f caps =>
   simp only [callvK,argsV_eq]
   cases mapM' (fun x=>toD2 (lk bl none) (evo (lk fr .any) x)) args with
   | none=>rfl
   | some ds =>
    simp only [Option.bind_some,callF]
    cases call T f (ds ++ caps) <;> rfl
  | _=>rfl
 | _=>rfl
def extK (v:V) (i:Nat) (k:V→Option β):Option β:=match v with
 | .tup vs=>vgetK vs i k
 | _=>none
theorem opK_extract (x:Opd) (i:Nat):opK T d (.extract x i) fr bl k kw = opdK fr x fun v=>extK v i k:=by
 unfold opK opdK
 simp only [aop]
 generalize evo (lk fr .any) x = v
 cases v with
 | tup vs=>simp only [extK,vgetK_eq]; cases vs[i]? <;> rfl
 | _=>rfl
theorem extK_t (vs:List V) (i:Nat):extK (.tup vs) i k = vgetK vs i k:=rfl
def maskK (m:Mask) (fr:List (Nat × V)) (bl:List (Nat × Option Blk)) (k:List (Nat × V)→List (Nat × Option Blk)→Option β):Option β:=k (m.app ⟨fr,bl⟩).fr (m.app ⟨fr,bl⟩).bl
theorem evF_pre {k:Ex→St→Option β} (m:Mask) (a:SCode):evK T (.pre m a) ⟨fr,bl⟩ k = maskK m fr bl fun fr' bl'=>evK T a ⟨fr',bl'⟩ k:=by
 rw [evK_pre]; rfl
theorem postF_n {k:Ex→St→Option β} (m:Mask):postK m k .normal ⟨fr,bl⟩ = maskK m fr bl fun fr' bl'=>k .normal ⟨fr',bl'⟩:=by
 rw [postK_n]; rfl
def normK (keep:List Nat) (bl:List (Nat × Option Blk)) (v:V) (k:V→Option β):Option β:=k (norm3 keep (lk bl none) v)
def liveK (keep:List Nat) (fr:List (Nat × V)) (bl:List (Nat × Option Blk)):List Nat→(List (Nat × V)→Option β)→Option β
 | [],k=>k []
 | t :: r,k=>getK fr t fun v=>normK keep bl v fun v'=>liveK keep fr bl r fun l=>k ((t,v') :: l)
theorem liveK_eq (keep:List Nat) (l:List Nat):∀ (k:List (Nat × V)→Option β),liveK keep fr bl l k = k (l.map fun t=>(t,norm3 keep (lk bl none) (lk fr .any t))):=by
 induction l with
 | nil=>intro k; rfl
 | cons t l ih=>intro k; simp only [liveK,getK,normK,ih,List.map_cons]
def normBK (keep:List Nat) (bl:List (Nat × Option Blk)) (b:Option Blk) (k:Option Blk→Option β):Option β:=k (b.bind (normB keep (lk bl none)))
def keepK (keep:List Nat) (bl:List (Nat × Option Blk)):List Nat→(List (Nat × Option Blk)→Option β)→Option β
 | [],k=>k []
 | i :: r,k=>blkK bl i fun b=>normBK keep bl b fun b'=>keepK keep bl r fun l=>k ((i,b') :: l)
theorem keepK_eq (keep:List Nat) (l:List Nat):∀ (k:List (Nat × Option Blk)→Option β),keepK keep bl l k = k (l.map fun i=>(i,(lk bl none i).bind (normB keep (lk bl none)))):=by
 induction l with
 | nil=>intro k; rfl
 | cons t l ih=>intro k; simp only [keepK,blkK,normBK,ih,List.map_cons]
theorem liveK_nil (keep:List Nat) (k:List (Nat × V)→Option β):liveK keep fr bl [] k = k []:=rfl
theorem liveK_cons (keep:List Nat) (t:Nat) (r:List Nat) (k:List (Nat × V)→Option β):liveK keep fr bl (t :: r) k = getK fr t fun v=>normK keep bl v fun v'=>liveK keep fr bl r fun l=>k ((t,v') :: l):=rfl
theorem keepK_nil (keep:List Nat) (k:List (Nat × Option Blk)→Option β):keepK keep bl [] k = k []:=rfl
theorem keepK_cons (keep:List Nat) (i:Nat) (r:List Nat) (k:List (Nat × Option Blk)→Option β):keepK keep bl (i :: r) k = blkK bl i fun b=>normBK keep bl b fun b'=>keepK keep bl r fun l=>k ((i,b') :: l):=rfl
theorem maskK_c (live keep:List Nat) (k:List (Nat × V)→List (Nat × Option Blk)→Option β):maskK ⟨live,keep,[],[],[],[]⟩ fr bl k = liveK keep fr bl live fun fr'=>keepK keep bl keep fun bl'=>k fr' bl':=by
 rw [liveK_eq,keepK_eq]; rfl
def containsK (keep:List Nat) (i:Nat) (x y:Option β):Option β:=if keep.contains i = true then x else y
theorem containsK_nil (i:Nat) (x y:Option β):containsK [] i x y = y:=rfl
theorem containsK_hit (i:Nat) (r:List Nat) (x y:Option β):containsK (i :: r) i x y = x:=by simp [containsK]
theorem containsK_miss (a i:Nat) (r:List Nat) (x y:Option β) (h:(i == a) = false):containsK (a :: r) i x y = containsK r i x y:=by
 unfold containsK
 rw [List.contains_cons,h,Bool.false_or]
section
variable (keep:List Nat)
theorem normK_d (x:D):normK keep bl (.d x) k = k (.d x):=rfl
theorem normK_nil:normK keep bl .nil k = k .nil:=rfl
theorem normK_u:normK keep bl (.tup []) k = k (.tup []):=rfl
theorem normK_any:normK keep bl .any k = k .any:=rfl
def normPK (keep:List Nat) (id off:Nat) (b:Option Blk) (k:V→Option β):Option β:=match b with
 | some (.box _)=>containsK keep id (k (.ptr id off)) (k .any)
 | some (.fbox ds)=>k (.d (.ptr ds off))
 | _=>k .any
theorem normPK_box (id off:Nat) (cs:List V):normPK keep id off (some (.box cs)) k = containsK keep id (k (.ptr id off)) (k .any):=rfl
theorem normPK_fbox (id off:Nat) (ds:List D):normPK keep id off (some (.fbox ds)) k = k (.d (.ptr ds off)):=rfl
theorem normPK_none (id off:Nat):normPK keep id off none k = k .any:=rfl
theorem normK_ptr (id off:Nat):normK keep bl (.ptr id off) k = blkK bl id fun b=>normPK keep id off b k:=by
 unfold normK blkK normPK
 simp only [norm3,norm2,norm1]
 generalize lk bl none id = b
 cases b with
 | none=>rfl
 | some b=>cases b with
  | box cs=>simp only [containsK]; split <;> rfl
  | _=>rfl
def normOK (id ver:Nat) (b:Option Blk) (k:V→Option β):Option β:=match b with
 | some (.rows v _ _ _)=>if (ver == v) = true then containsK keep id (k (.own id 0)) (k .any) else k .any
 | some (.froz v rows)=>if ver = v then k (.d (.sl rows)) else k .any
 | _=>k .any
theorem normK_own (id ver:Nat):normK keep bl (.own id ver) k = blkK bl id fun b=>normOK keep id ver b k:=by
 unfold normK blkK normOK containsK
 simp only [norm3,norm2,norm1]
 generalize lk bl none id = b
 cases b with
 | none=>rfl
 | some b=>cases b with
  | rows v e s rows=>simp only; cases (ver == v) <;> cases keep.contains id <;> rfl
  | froz v rows=>simp only; split <;> rfl
  | _=>rfl
theorem normOK_rows (id v e s:Nat) (rows:List (List D)):normOK keep id v (some (.rows v e s rows)) k = containsK keep id (k (.own id 0)) (k .any):=by simp [normOK]
theorem normOK_old (id ver v e s:Nat) (rows:List (List D)) (h:(ver == v) = false):normOK keep id ver (some (.rows v e s rows)) k = k .any:=by simp [normOK,h]
theorem normOK_froz (id v:Nat) (rows:List (List D)):normOK keep id v (some (.froz v rows)) k = k (.d (.sl rows)):=if_pos rfl
theorem normOK_none (id v:Nat):normOK keep id v none k = k .any:=rfl
def normWK (id ver i off:Nat) (b:Option Blk) (k:V→Option β):Option β:=match b with
 | some (.rows v _ _ _)=>if (ver == v) = true then containsK keep id (k (.orow id 0 i off)) (k .any) else k .any
 | _=>k .any
theorem normK_orow (id ver i off:Nat):normK keep bl (.orow id ver i off) k = blkK bl id fun b=>normWK keep id ver i off b k:=by
 unfold normK blkK normWK containsK
 simp only [norm3,norm2,norm1]
 generalize lk bl none id = b
 cases b with
 | none=>rfl
 | some b=>cases b with
  | rows v e s rows=>simp only; cases (ver == v) <;> cases keep.contains id <;> rfl
  | _=>rfl
theorem normWK_rows (id v i off e s:Nat) (rows:List (List D)):normWK keep id v i off (some (.rows v e s rows)) k = containsK keep id (k (.orow id 0 i off)) (k .any):=by simp [normWK]
theorem normWK_old (id ver v i off e s:Nat) (rows:List (List D)) (h:(ver == v) = false):normWK keep id ver i off (some (.rows v e s rows)) k = k .any:=by simp [normWK,h]
def normCK (keep:List Nat) (bl:List (Nat × Option Blk)):List V→(List V→Option β)→Option β
 | [],k=>k []
 | v :: cs,k=>k (norm1 keep (lk bl none) v :: cs.map (norm1 keep (lk bl none)))
theorem normCK_eq (cs:List V) (k:List V→Option β):normCK keep bl cs k = k (cs.map (norm1 keep (lk bl none))):=by cases cs <;> rfl
theorem normCK_nil (k:List V→Option β):normCK keep bl [] k = k []:=rfl
theorem normCK_d (x:D) (cs:List V) (k:List V→Option β):normCK keep bl (.d x :: cs) k = normCK keep bl cs fun l=>k (.d x :: l):=by simp only [normCK_eq]; rfl
theorem normCK_n (cs:List V) (k:List V→Option β):normCK keep bl (.nil :: cs) k = normCK keep bl cs fun l=>k (.nil :: l):=by simp only [normCK_eq]; rfl
theorem normCK_any (cs:List V) (k:List V→Option β):normCK keep bl (.any :: cs) k = normCK keep bl cs fun l=>k (.any :: l):=by simp only [normCK_eq]; rfl
theorem normCK_own (id ver:Nat) (cs:List V) (k:List V→Option β):normCK keep bl (.own id ver :: cs) k = normK keep bl (.own id ver) fun v=>normCK keep bl cs fun l=>k (v :: l):=by simp only [normCK_eq]; rfl
theorem normCK_ptr (id off:Nat) (cs:List V) (k:List V→Option β):normCK keep bl (.ptr id off :: cs) k = normK keep bl (.ptr id off) fun v=>normCK keep bl cs fun l=>k (v :: l):=by simp only [normCK_eq]; rfl
theorem normK_agg (cs:List V):normK keep bl (.agg cs) k = normCK keep bl cs fun l=>k (.agg l):=by rw [normCK_eq]; rfl
theorem norm1_dcells (ds:List D) (b:Nat→Option Blk):(dcells ds).map (norm1 keep b) = dcells ds:=by
 induction ds with
 | nil=>rfl
 | cons x ds ih=>show norm1 keep b (.d x) :: (dcells ds).map (norm1 keep b) = _; rw [ih]; rfl
theorem normK_aggD (ds:List D):normK keep bl (aggD ds) k = k (aggD ds):=by
 show k (.agg ((dcells ds).map (norm1 keep (lk bl none)))) = _
 rw [norm1_dcells]; rfl
theorem normBK_none (k:Option Blk→Option β):normBK keep bl none k = k none:=rfl
theorem normBK_box (c:V) (cs:List V) (k:Option Blk→Option β):normBK keep bl (some (.box (c :: cs))) k = normCK keep bl (c :: cs) fun l=>k (some (.box l)):=by rw [normCK_eq]; rfl
theorem normBK_box0 (k:Option Blk→Option β):normBK keep bl (some (.box [])) k = k (some (.box [])):=rfl
theorem normBK_packed (ds:List D) (k:Option Blk→Option β):normBK keep bl (some (.box (dcells ds))) k = k (some (.box (dcells ds))):=by
 show k (some (.box ((dcells ds).map (norm1 keep (lk bl none))))) = _
 rw [norm1_dcells]
theorem normBK_rows (v e s:Nat) (rows:List (List D)) (k:Option Blk→Option β):normBK keep bl (some (.rows v e s rows)) k = k (some (.rows 0 e s rows)):=rfl
theorem normBK_fbox (ds:List D) (k:Option Blk→Option β):normBK keep bl (some (.fbox ds)) k = k none:=rfl
theorem normBK_froz (v:Nat) (rows:List (List D)) (k:Option Blk→Option β):normBK keep bl (some (.froz v rows)) k = k none:=rfl
end
def finR (res:List SRes):Ex→St→Option D
 | .normal,s=>match mapM' (resV s) res with
  | none=>none
  | some [v]=>toD2 s.blk v
  | some vs=>toD s.blk (.tup vs)
 | .ret,s=>match mapM' (resV s) res with
  | none=>none
  | some [v]=>toD2 s.blk v
  | some vs=>toD s.blk (.tup vs)
 | .exit _,_=>none
def resF (fr:List (Nat × V)) (bl:List (Nat × Option Blk)):List SRes→(List D→Option D)→Option D
 | [],k=>k []
 | .tmp t :: r,k=>getK fr t fun v=>toDK v bl fun x _=>resF fr bl r fun l=>k (x :: l)
 | .cell t size isAgg :: r,k=>getK fr t fun p=>loadK size isAgg p bl fun v=>toDK v bl fun x _=>resF fr bl r fun l=>k (x :: l)
def packR:List D→Option D
 | [x]=>some x
 | l=>some (.tup l)
theorem loadK_eq (size:Nat) (a:Bool) (p:V):loadK size a p bl k = (loadR size a p (lk bl none)).bind fun r=>k r.1:=by
 have h:=opK_load (T:=fun _=>none) (d:=0) (fr:=[]) (bl:=bl) (k:=k) (kw:=fun v _=>k v) size a (.c p)
 have e:opdK [] (.c p) (fun v=>loadK size a v bl k) = loadK size a p bl k:=rfl
 rw [← e,← h,opK_ans,aop_load]
 show ansK (loadR size a p (lk bl none)) k (fun v _=>k v) = _
 cases loadR size a p (lk bl none) with
 | none=>rfl
 | some r=>obtain ⟨v,wr⟩:=r; cases wr <;> rfl
theorem blk_fn (fr:List (Nat × V)) (bl:List (Nat × Option Blk)):St.blk ⟨fr,bl⟩ = lk bl none:=rfl
theorem resF_eq (res:List SRes):∀ (k:List D→Option D),resF fr bl res k = (mapM' (resV ⟨fr,bl⟩) res).bind fun vs=>(mapM' (toD2 (lk bl none)) vs).bind k:=by
 induction res with
 | nil=>intro k; rfl
 | cons r res ih =>
  intro k
  cases r with
  | tmp t =>
   simp only [resF,getK,toDK,ih,mapM',resV,get_mk,blk_fn]
   cases h1:mapM' (resV ⟨fr,bl⟩) res with
   | none =>
    simp only [Option.bind_none]
    cases toD2 (lk bl none) (lk fr .any t) <;> rfl
   | some vs =>
    simp only [Option.bind_some,mapM']
    cases toD2 (lk bl none) (lk fr .any t) with
    | none=>rfl
    | some x=>cases mapM' (toD2 (lk bl none)) vs <;> rfl
  | cell t size isAgg =>
   simp only [resF,getK,loadK_eq,toDK,ih,mapM',resV,aop_load,get_mk,blk_fn]
   cases loadR size isAgg (lk fr .any t) (lk bl none) with
   | none=>rfl
   | some q =>
    obtain ⟨v,wr⟩:=q
    simp only [Option.bind_some]
    cases h1:mapM' (resV ⟨fr,bl⟩) res with
    | none =>
     simp only [Option.bind_none]
     cases toD2 (lk bl none) v <;> rfl
    | some vs =>
     simp only [Option.bind_some,mapM']
     cases toD2 (lk bl none) v with
     | none=>rfl
     | some x=>cases mapM' (toD2 (lk bl none)) vs <;> rfl
theorem finR_go (res:List SRes):(match mapM' (resV ⟨fr,bl⟩) res with
  | none=>none
  | some [v]=>toD2 (lk bl none) v
  | some vs=>toD (lk bl none) (.tup vs)) = resF fr bl res packR:=by
 rw [resF_eq]
 cases mapM' (resV ⟨fr,bl⟩) res with
 | none=>rfl
 | some vs =>
  simp only [Option.bind_some]
  cases vs with
  | nil=>rfl
  | cons v vs =>
   cases vs with
   | nil =>
    simp only [mapM']
    cases toD2 (lk bl none) v <;> rfl
   | cons w ws =>
    show (mapM' (toD2 (lk bl none)) (v :: w :: ws)).map D.tup = _
    simp only [mapM']
    cases toD2 (lk bl none) v with
    | none=>rfl
    | some x=>cases toD2 (lk bl none) w with
     | none=>rfl
     | some y=>cases mapM' (toD2 (lk bl none)) ws <;> rfl
theorem finR_n (res:List SRes):finR res .normal ⟨fr,bl⟩ = resF fr bl res packR:=finR_go res
theorem finR_r (res:List SRes):finR res .ret ⟨fr,bl⟩ = resF fr bl res packR:=finR_go res
theorem finR_e (res:List SRes) (i:Nat) (s:St):finR res (.exit i) s = none:=rfl
theorem resF_nil (k:List D→Option D):resF fr bl [] k = k []:=rfl
theorem resF_tmp (t:Nat) (r:List SRes) (k:List D→Option D):resF fr bl (.tmp t :: r) k = getK fr t fun v=>toDK v bl fun x _=>resF fr bl r fun l=>k (x :: l):=rfl
theorem resF_cell (t size:Nat) (isAgg:Bool) (r:List SRes) (k:List D→Option D):resF fr bl (.cell t size isAgg :: r) k = getK fr t fun p=>loadK size isAgg p bl fun v=>toDK v bl fun x _=>resF fr bl r fun l=>k (x :: l):=rfl
theorem packR_1 (x:D):packR [x] = some x:=rfl
theorem packR_2 (x y:D) (l:List D):packR (x :: y :: l) = some (.tup (x :: y :: l)):=rfl
theorem call_eqF {T:Tbl} {f np nt:Nat} {res:List SRes} {body:SCode} (hf:T f = some (.code ⟨np,nt,res,body,false,false⟩)) (ds:List D) (hl:ds.length = np) (hlt:lentAt 0 ds = none):Vm.call T f ds = evK T body ⟨initFr 0 ds,[]⟩ (finR res):=by
 rw [call_eqK hf ds hl hlt]
 unfold evK
 cases Vm.ev T body ⟨initFr 0 ds,[]⟩ with
 | none=>rfl
 | some q =>
  obtain ⟨e,s⟩:=q
  cases e <;> rfl
def packV:List V→V
 | [v]=>v
 | vs=>.tup vs
def resO (fr:List (Nat × V)) (bl:List (Nat × Option Blk)):List SRes→(List V→Option D)→Option D
 | [],k=>k []
 | .tmp t :: r,k=>getK fr t fun v=>resO fr bl r fun l=>k (v :: l)
 | .cell t size isAgg :: r,k=>getK fr t fun p=>loadK size isAgg p bl fun v=>resO fr bl r fun l=>k (v :: l)
theorem resO_eq (res:List SRes):∀ (k:List V→Option D),resO fr bl res k = (mapM' (resV ⟨fr,bl⟩) res).bind k:=by
 induction res with
 | nil=>intro k; rfl
 | cons r res ih =>
  intro k
  cases r with
  | tmp t =>
   simp only [resO,getK,ih,mapM',resV,get_mk]
   cases mapM' (resV ⟨fr,bl⟩) res <;> rfl
  | cell t size isAgg =>
   simp only [resO,getK,loadK_eq,ih,mapM',resV,aop_load,get_mk,blk_fn]
   cases loadR size isAgg (lk fr .any t) (lk bl none) with
   | none=>rfl
   | some q =>
    obtain ⟨v,wr⟩:=q
    simp only [Option.bind_some]
    cases mapM' (resV ⟨fr,bl⟩) res <;> rfl
def finO (res:List SRes):Ex→St→Option D
 | .normal,s=>match mapM' (resV s) res with
  | none=>none
  | some [v]=>freshD s.blk v
  | some vs=>freshD s.blk (.tup vs)
 | .ret,s=>match mapM' (resV s) res with
  | none=>none
  | some [v]=>freshD s.blk v
  | some vs=>freshD s.blk (.tup vs)
 | .exit _,_=>none
theorem finO_go (res:List SRes):(match mapM' (resV ⟨fr,bl⟩) res with
  | none=>none
  | some [v]=>freshD (lk bl none) v
  | some vs=>freshD (lk bl none) (.tup vs)) = resO fr bl res fun vs=>freshD (lk bl none) (packV vs):=by
 rw [resO_eq]
 cases mapM' (resV ⟨fr,bl⟩) res with
 | none=>rfl
 | some vs =>
  cases vs with
  | nil=>rfl
  | cons v vs=>cases vs <;> rfl
theorem finO_n (res:List SRes):finO res .normal ⟨fr,bl⟩ = resO fr bl res fun vs=>freshD (lk bl none) (packV vs):=finO_go res
theorem finO_r (res:List SRes):finO res .ret ⟨fr,bl⟩ = resO fr bl res fun vs=>freshD (lk bl none) (packV vs):=finO_go res
theorem finO_e (res:List SRes) (i:Nat) (s:St):finO res (.exit i) s = none:=rfl
theorem resO_nil (k:List V→Option D):resO fr bl [] k = k []:=rfl
theorem resO_tmp (t:Nat) (r:List SRes) (k:List V→Option D):resO fr bl (.tmp t :: r) k = getK fr t fun v=>resO fr bl r fun l=>k (v :: l):=rfl
theorem resO_cell (t size:Nat) (isAgg:Bool) (r:List SRes) (k:List V→Option D):resO fr bl (.cell t size isAgg :: r) k = getK fr t fun p=>loadK size isAgg p bl fun v=>resO fr bl r fun l=>k (v :: l):=rfl
theorem packV_1 (x:V):packV [x] = x:=rfl
theorem packV_2 (x y:V) (l:List V):packV (x :: y :: l) = .tup (x :: y :: l):=rfl
theorem call_eqO {T:Tbl} {f np nt:Nat} {res:List SRes} {body:SCode} (hf:T f = some (.code ⟨np,nt,res,body,true,false⟩)) (ds:List D) (hl:ds.length = np) (hlt:lentAt 0 ds = none):Vm.call T f ds = evK T body ⟨initFr 0 ds,[]⟩ (finO res):=by
 rw [call_eqK hf ds hl hlt]
 unfold evK
 cases Vm.ev T body ⟨initFr 0 ds,[]⟩ with
 | none=>rfl
 | some q =>
  obtain ⟨e,s⟩:=q
  cases e <;> rfl
def mkTK (v:V) (b:Option Blk) (x y:Option β):Option β:=match v,b with
 | .nil,none=>x
 | _,_=>y
theorem mkTK_go (b:Blk) (x y:Option β):mkTK .nil (some b) x y = y:=rfl
theorem mkTK_x (x y:Option β):mkTK .nil none x y = x:=rfl
theorem mkTK_own (i v:Nat) (b:Option Blk) (x y:Option β):mkTK (.own i v) b x y = y:=rfl
theorem mkTK_d (z:D) (b:Option Blk) (x y:Option β):mkTK (.d z) b x y = y:=rfl
theorem mkTK_any (b:Option Blk) (x y:Option β):mkTK .any b x y = y:=rfl
theorem maskK_t (live keep:List Nat) (t i e s:Nat) (l:List (Nat × Nat × Nat × Nat)) (c:List (Nat × Nat × Nat × Nat × Nat)) (ft:List Nat) (fc:List (Nat × Nat)) (k:List (Nat × V)→List (Nat × Option Blk)→Option β) (hs:0 < s) :
  maskK ⟨live,keep,(t,i,e,s) :: l,c,ft,fc⟩ fr bl k = getK fr t fun v=>blkK bl i fun b=>mkTK v b (bsK e [] fun rows=>maskK ⟨live,keep,l,c,ft,fc⟩ ((t,.own i 0) :: fr) ((i,some (.rows 0 e s rows)) :: bl) k) (maskK ⟨live,keep,l,c,ft,fc⟩ fr bl k):=by
 show maskK ⟨live,keep,(t,i,e,s) :: l,c,ft,fc⟩ fr bl k = mkTK (lk fr .any t) (lk bl none i) _ _
 unfold maskK
 rw [app_t]
 unfold mkT bsK
 show k (Mask.app ⟨live,keep,l,c,ft,fc⟩ (match lk fr .any t,lk bl none i with | .nil,none=>if 0 < s then _ else _ | _,_=>_)).fr (Mask.app ⟨live,keep,l,c,ft,fc⟩ (match lk fr .any t,lk bl none i with | .nil,none=>if 0 < s then _ else _ | _,_=>_)).bl = _
 generalize lk fr .any t = v
 generalize lk bl none i = b
 cases v with
 | nil=>cases b with
  | none=>simp only [mkTK,if_pos hs]
  | some b=>rfl
 | _=>rfl
def mkCK (b0:Option Blk) (n:Nat) (b:Option Blk) (x:List V→Option β) (y:Option β):Option β:=match b0 with
 | some (.box cs)=>match cs[n]?,b with
  | some .nil,none=>x cs
  | _,_=>y
 | _=>y
theorem maskK_o (live keep:List Nat) (i n j e s:Nat) (c:List (Nat × Nat × Nat × Nat × Nat)) (ft:List Nat) (fc:List (Nat × Nat)) (k:List (Nat × V)→List (Nat × Option Blk)→Option β) (hs:0 < s) :
  maskK ⟨live,keep,[],(i,n,j,e,s) :: c,ft,fc⟩ fr bl k = blkK bl i fun b0=>blkK bl j fun b=>mkCK b0 n b (fun cs=>vsetK cs n (.own j 0) fun cs'=>bsK e [] fun rows=>maskK ⟨live,keep,[],c,ft,fc⟩ fr ((i,some (.box cs')) :: (j,some (.rows 0 e s rows)) :: bl) k) (maskK ⟨live,keep,[],c,ft,fc⟩ fr bl k):=by
 show maskK ⟨live,keep,[],(i,n,j,e,s) :: c,ft,fc⟩ fr bl k = mkCK (lk bl none i) n (lk bl none j) _ _
 unfold maskK
 rw [app_c]
 have hm:∀ b0 b,lk bl none i = b0→lk bl none j = b→mkC (i,n,j,e,s) ⟨fr,bl⟩ = (match b0,b with
  | some (.box cs),none=>match cs[n]? with
   | some .nil=>if 0 < s then ⟨fr,(i,some (.box (cs.set n (.own j 0)))) :: (j,some (.rows 0 e s [])) :: bl⟩ else ⟨fr,bl⟩
   | _=>⟨fr,bl⟩
  | _,_=>⟨fr,bl⟩):=by
  rintro _ _ rfl rfl; rfl
 have hm:=hm _ _ rfl rfl
 rw [hm]
 generalize lk bl none i = b0
 generalize lk bl none j = b
 cases b0 with
 | none=>rfl
 | some b0=>cases b0 with
  | box cs =>
   cases b with
   | none =>
    simp only [mkCK]
    cases h:cs[n]? with
    | none=>rfl
    | some v =>
     cases v with
     | nil =>
      have hn:n < cs.length:=by
       rw [List.getElem?_eq_some_iff] at h
       exact h.1
      simp only [if_pos hs,vsetK_eq,bsK]
      rw [if_pos (by omega)]
      have:∀ (cs:List V) (n:Nat),n < cs.length→setAt cs n [.own j 0] = cs.set n (.own j 0):=by
       intro cs
       induction cs with
       | nil=>intro n h; simp at h
       | cons c cs ih =>
        intro n h
        cases n with
        | zero=>cases cs <;> rfl
        | succ n=>simp only [setAt,List.set_cons_succ]; rw [ih n (by simpa using h)]
      rw [this cs n hn]
     | _=>rfl
   | some b=>simp only [mkCK]; cases cs[n]? with
    | none=>rfl
    | some v=>cases v <;> rfl
  | _=>cases b <;> rfl
theorem partsK_nil (k:List (Nat × Nat × V)→Option β):partsK fr [] k = k []:=rfl
theorem partsK_cons (o s:Nat) (x:Opd) (l:List (Nat × Nat × Opd)) (k:List (Nat × Nat × V)→Option β):partsK fr ((o,s,x) :: l) k = opdK fr x fun v=>partsK fr l fun vs=>k ((o,s,v) :: vs):=rfl
theorem partsK_eq (l:List (Nat × Nat × Opd)):∀ (k:List (Nat × Nat × V)→Option β),partsK fr l k = k (l.map fun p=>(p.1,p.2.1,evo (lk fr .any) p.2.2)):=by
 induction l with
 | nil=>intro k; rfl
 | cons p l ih=>intro k; obtain ⟨o,s,x⟩:=p; simp only [partsK,opdK,ih,List.map_cons]
def fillF (z:List V):List (Nat × Nat × V)→(List V→Option β)→Option β
 | [],k=>k z
 | (off,size,v) :: r,k=>cellsK v fun cs=>lenIs cs size (vsetsK z off cs fun z'=>fillF z' r k)
theorem fillF_nil (z:List V) (k:List V→Option β):fillF z [] k = k z:=rfl
theorem fillF_cons (z:List V) (off size:Nat) (v:V) (r:List (Nat × Nat × V)) (k:List V→Option β):fillF z ((off,size,v) :: r) k = cellsK v fun cs=>lenIs cs size (vsetsK z off cs fun z'=>fillF z' r k):=rfl
theorem fillF_eq (ps:List (Nat × Nat × V)):∀ (z:List V) (k:List V→Option β),fillF z ps k = (fillV z ps).bind k:=by
 induction ps with
 | nil=>intro z k; rfl
 | cons p r ih =>
  intro z k
  obtain ⟨off,size,v⟩:=p
  simp only [fillF,fillV,cellsK,lenIs,vsetsK,ih]
  by_cases h1:v.known = true
  ·by_cases h2:v.cells.length = size
   ·subst h2
    by_cases h3:off + v.cells.length ≤ z.length
    ·rw [if_pos h1,if_pos rfl,if_pos h3,if_pos ⟨rfl,h3,h1⟩]
    ·rw [if_pos h1,if_pos rfl,if_neg h3,if_neg (fun q=>h3 q.2.1)]; rfl
   ·rw [if_pos h1,if_neg h2,if_neg (fun q=>h2 q.1)]; rfl
  ·rw [if_neg h1,if_neg (fun q=>h1 q.2.2)]; rfl
theorem opF_build (z:List V) (parts:List (Nat × Nat × Opd)):opK T d (.build z parts) fr bl k kw = partsK fr parts fun ps=>fillF z ps fun cs=>k (.agg cs):=by
 rw [opK_ans,partsK_eq,fillF_eq]
 simp only [aop]
 have e1:(parts.map fun x=>match x with | (o,s,x)=>(o,s,evo (lk fr .any) x)) = parts.map fun p=>(p.1,p.2.1,evo (lk fr .any) p.2.2):=rfl
 rw [e1]
 cases fillV z (parts.map fun p=>(p.1,p.2.1,evo (lk fr .any) p.2.2)) <;> rfl
theorem dcells_len (ds:List D):(dcells ds).length = ds.length:=by simp [dcells]
def mkSK (bytes:Nat) (a b:V) (x:Nat→Option β):Option β:=match a,b with
 | .d (.int _ n),.d (.int _ m)=>if 0 ≤ n ∧ n ≤ m ∧ (bytes:Int) * m ≤ 281474976710656 ∧ m ≤ 9223372036854775807 then x n.toNat else none
 | _,_=>none
theorem mkSK_i (bytes:Nat) (i j:IntKind) (n m:Int) (x:Nat→Option β):mkSK bytes (.d (.int i n)) (.d (.int j m)) x = if 0 ≤ n ∧ n ≤ m ∧ (bytes:Int) * m ≤ 281474976710656 ∧ m ≤ 9223372036854775807 then x n.toNat else none:=rfl
theorem makeF {α:Type} (e size bytes:Nat) (z:List D) (c:α→List D) (x:α) (hz:z = c x) (l cp:Opd):opK T d (.makeSlice e size bytes z l cp) fr bl k kw = blkK bl d fun b=>noneK b (opdK fr l fun a=>opdK fr cp fun b=>mkSK bytes a b fun n=>kw (.own d 0) [(d,some (.rows 0 e size (cM c (List.replicate n x))))]):=makeSlice_gen e size bytes z c x hz l cp
theorem evF_cond {k:Ex→St→Option β} (c:Opd) (a b:SCode):evK T (.cond c a b) ⟨fr,bl⟩ k = opdK fr c fun v=>condK v (evK T a ⟨fr,bl⟩ k) (evK T b ⟨fr,bl⟩ k):=evK_cond c a b _
theorem blkK_aa (a b c:List (Nat × Option Blk)) (t:Nat) (k:Option Blk→Option β):blkK ((a ++ b) ++ c) t k = blkK (a ++ (b ++ c)) t k:=by rw [List.append_assoc]
def mkDK:List V→Nat→(V→Option β)→Option β→Option β
 | [],_,_,y=>y
 | c :: _,0,x,_=>x c
 | _ :: cs,n + 1,x,y=>mkDK cs n x y
theorem mkDK_z (c:V) (cs:List V) (x:V→Option β) (y:Option β):mkDK (c :: cs) 0 x y = x c:=rfl
theorem mkDK_s (c:V) (cs:List V) (n:Nat) (x:V→Option β) (y:Option β):mkDK (c :: cs) (n + 1) x y = mkDK cs n x y:=rfl
theorem mkCK_box (cs:List V) (n:Nat) (b:Option Blk) (x:List V→Option β) (y:Option β):mkCK (some (.box cs)) n b x y = mkDK cs n (fun v=>mkTK v b (x cs) y) y:=by
 have:∀ (l:List V) (n:Nat),(match l[n]?,b with | some .nil,none=>x cs | _,_=>y) = mkDK l n (fun v=>mkTK v b (x cs) y) y:=by
  intro l
  induction l with
  | nil=>intro n; rfl
  | cons c l ih=>intro n; cases n with
   | zero=>cases c <;> cases b <;> rfl
   | succ n=>exact ih n
 exact this cs n
theorem mkCK_none (n:Nat) (b:Option Blk) (x:List V→Option β) (y:Option β):mkCK none n b x y = y:=rfl
def lenRK (rows:List (List D)) (k:V→Option β):Option β:=k (.d (.int .i64 rows.length))
theorem lenRK_c {α:Type} (c:α→List D) (xs:List α):lenRK (cM c xs) k = k (.d (.int .i64 (xs.length:Int))):=by unfold lenRK; rw [cM_length]
theorem lenRK_n:lenRK [] k = k (.d (.int .i64 0)):=rfl
theorem opF_len (x:Opd):opK T d (.len x) fr bl k kw = opdK fr x fun a=>rowsK a bl fun rows=>lenRK rows k:=opK_len x
def frTK (v:V) (bl:List (Nat × Option Blk)) (k:V→List (Nat × Option Blk)→Option β) (y:Option β):Option β:=match toD0 (lk bl none) v with
 | some x=>k (.d x) (fz0 (lk bl none) v)
 | none=>y
theorem frTK_d (x:D) (k:V→List (Nat × Option Blk)→Option β) (y:Option β):frTK (.d x) bl k y = k (.d x) []:=rfl
theorem frTK_nil (k:V→List (Nat × Option Blk)→Option β) (y:Option β):frTK .nil bl k y = k (.d (.sl [])) []:=rfl
theorem frTK_any (k:V→List (Nat × Option Blk)→Option β) (y:Option β):frTK .any bl k y = y:=rfl
def frOK (id ver:Nat) (b:Option Blk) (k:V→List (Nat × Option Blk)→Option β) (y:Option β):Option β:=match b with
 | some (.rows v _ _ rows)=>if ver = v then k (.d (.sl rows)) [(id,some (.froz v rows))] else y
 | some (.froz v rows)=>if ver = v then k (.d (.sl rows)) [] else y
 | _=>y
theorem frTK_own (id ver:Nat) (k:V→List (Nat × Option Blk)→Option β) (y:Option β):frTK (.own id ver) bl k y = blkK bl id fun b=>frOK id ver b k y:=by
 unfold frTK blkK frOK
 simp only [toD0,fz0]
 generalize lk bl none id = b
 cases b with
 | none=>rfl
 | some b=>cases b with
  | rows v e s rows=>simp only; by_cases h:ver = v <;> simp [h]
  | froz v rows=>simp only; by_cases h:ver = v <;> simp [h]
  | _=>rfl
theorem frOK_rows (id v e s:Nat) (rows:List (List D)) (k:V→List (Nat × Option Blk)→Option β) (y:Option β):frOK id v (some (.rows v e s rows)) k y = k (.d (.sl rows)) [(id,some (.froz v rows))]:=if_pos rfl
theorem frOK_froz (id v:Nat) (rows:List (List D)) (k:V→List (Nat × Option Blk)→Option β) (y:Option β):frOK id v (some (.froz v rows)) k y = k (.d (.sl rows)) []:=if_pos rfl
theorem maskK_ft (live keep:List Nat) (t:Nat) (ft:List Nat) (fc:List (Nat × Nat)) (k:List (Nat × V)→List (Nat × Option Blk)→Option β) :
  maskK ⟨live,keep,[],[],t :: ft,fc⟩ fr bl k = getK fr t fun v=>frTK v bl (fun v' wr=>maskK ⟨live,keep,[],[],ft,fc⟩ ((t,v') :: fr) (wr ++ bl) k) (maskK ⟨live,keep,[],[],ft,fc⟩ fr bl k):=by
 unfold maskK
 rw [app_ft]
 unfold frT getK frTK
 rw [get_mk,blk_fn]
 dsimp only
 cases toD0 (lk bl none) (lk fr .any t) <;> rfl
def frCK (n:Nat) (b:Option Blk) (bl:List (Nat × Option Blk)) (k:List V→List (Nat × Option Blk)→Option β) (y:Option β):Option β:=match b with
 | some (.box cs)=>match cs[n]? with
  | some v=>match toD0 (lk bl none) v with
   | some d=>k (cs.set n (.d d)) (fz0 (lk bl none) v)
   | none=>y
  | none=>y
 | _=>y
theorem maskK_fc (live keep:List Nat) (i n:Nat) (fc:List (Nat × Nat)) (k:List (Nat × V)→List (Nat × Option Blk)→Option β) :
  maskK ⟨live,keep,[],[],[],(i,n) :: fc⟩ fr bl k = blkK bl i fun b=>frCK n b bl (fun cs wr=>maskK ⟨live,keep,[],[],[],fc⟩ fr ((i,some (.box cs)) :: (wr ++ bl)) k) (maskK ⟨live,keep,[],[],[],fc⟩ fr bl k):=by
 unfold maskK
 rw [app_fc]
 unfold frC blkK frCK
 rw [blk_fn]
 dsimp only
 cases lk bl none i with
 | none=>rfl
 | some b =>
  cases b with
  | box cs =>
   simp only
   cases cs[n]? with
   | none=>rfl
   | some v =>
    simp only
    cases toD0 (lk bl none) v <;> rfl
  | _=>rfl
theorem set_eq (cs:List V) (n:Nat) (w:V) (k:List V→Option β) (h:n < cs.length):vsetK cs n w k = k (cs.set n w):=by
 induction cs generalizing n k with
 | nil=>simp at h
 | cons c cs ih=>cases n with
  | zero=>rfl
  | succ n=>simp only [vsetK,List.set_cons_succ]; rw [ih n _ (by simpa using h)]
theorem frCK_box (n:Nat) (cs:List V) (k:List V→List (Nat × Option Blk)→Option β) (y:Option β):frCK n (some (.box cs)) bl k y = mkDK cs n (fun v=>frTK v bl (fun v' wr=>vsetK cs n v' fun cs'=>k cs' wr) y) y:=by
 have e:∀ (l:List V) (n:Nat) (x:V→Option β),mkDK l n x y = match l[n]? with | some v=>x v | none=>y:=by
  intro l
  induction l with
  | nil=>intro n x; rfl
  | cons c l ih=>intro n x; cases n with
   | zero=>rfl
   | succ n=>exact ih n x
 rw [e]
 simp only [frCK,frTK]
 cases h:cs[n]? with
 | none=>rfl
 | some v =>
  simp only
  cases toD0 (lk bl none) v with
  | none=>rfl
  | some d=>simp only; rw [set_eq _ _ _ _ (List.getElem?_eq_some_iff.1 h).1]
theorem frCK_none (n:Nat) (k:List V→List (Nat × Option Blk)→Option β) (y:Option β):frCK n none bl k y = y:=rfl
end
end Vm
end Go.Proofs.Ytmekbfccmnjdcaa
set_option linter.unusedVariables false
set_option linter.unusedSimpArgs false
namespace Go.Proofs.Ytmekbfccmnjdcaa
namespace Vm
open Go.RowKit
section
variable {β:Type} {T:Tbl}
def fpK (d:Nat) (op:SOp) (fr:List (Nat × V)) (bl:List (Nat × Option Blk)) (k:List Nat→Option β):Option β :=
 k ((if op.new = true then [d] else []) ++ ((op.peeks.flatMap fun x=>(evo (lk fr .any) x).ids) ++ op.deeps.flatMap fun x=>(evo (lk fr .any) x).dids (lk bl none)))
def widsK (wr:List (Nat × Option Blk)) (k:List Nat→Option β):Option β:=k (wr.map (·.1))
theorem widsK_nil (k:List Nat→Option β):widsK [] k = k []:=rfl
theorem widsK_c (i:Nat) (b:Option Blk) (w:List (Nat × Option Blk)) (k:List Nat→Option β):widsK ((i,b) :: w) k = widsK w fun l=>k (i :: l):=rfl
theorem widsK_an (w:List (Nat × Option Blk)) (k:List Nat→Option β):widsK ([] ++ w) k = widsK w k:=rfl
theorem widsK_ac (p:Nat × Option Blk) (v w:List (Nat × Option Blk)) (k:List Nat→Option β):widsK ((p :: v) ++ w) k = widsK (p :: (v ++ w)) k:=rfl
theorem widsK_aa (u v w:List (Nat × Option Blk)) (k:List Nat→Option β):widsK ((u ++ v) ++ w) k = widsK (u ++ (v ++ w)) k:=by rw [List.append_assoc]
theorem opsDF_cons (d st:Nat) (op:SOp) (l:List SOper) (fr:List (Nat × V)) (bl:List (Nat × Option Blk)) (fp:List Fp) (k:St→List Fp→Option β) :
  opsDK T (⟨some d,op,none,st⟩ :: l) ⟨fr,bl⟩ fp k = opK T st op fr bl (fun v=>fpK st op fr bl fun f=>opsDK T l ⟨(d,v) :: fr,bl⟩ ((f,[]) :: fp) k) (fun v wr=>widsK wr fun ws=>fpK st op fr bl fun f=>opsDK T l ⟨(d,v) :: fr,wr ++ bl⟩ ((f,ws) :: fp) k):=by
 rw [opsDK_cons]
 unfold opK resK fpK
 show (match aop (call T) st (evo (lk fr .any)) (lk bl none) op with | some (v,wr)=>_ | none=>none) = _
 cases aop (call T) st (evo (lk fr .any)) (lk bl none) op with
 | none=>rfl
 | some r=>obtain ⟨v,wr⟩:=r; cases wr <;> rfl
theorem opsDF_cons0 (st:Nat) (op:SOp) (l:List SOper) (fr:List (Nat × V)) (bl:List (Nat × Option Blk)) (fp:List Fp) (k:St→List Fp→Option β) :
  opsDK T (⟨none,op,none,st⟩ :: l) ⟨fr,bl⟩ fp k = opK T st op fr bl (fun _=>fpK st op fr bl fun f=>opsDK T l ⟨fr,bl⟩ ((f,[]) :: fp) k) (fun _ wr=>widsK wr fun ws=>fpK st op fr bl fun f=>opsDK T l ⟨fr,wr ++ bl⟩ ((f,ws) :: fp) k):=by
 rw [opsDK_cons]
 unfold opK resK fpK
 show (match aop (call T) st (evo (lk fr .any)) (lk bl none) op with | some (v,wr)=>_ | none=>none) = _
 cases aop (call T) st (evo (lk fr .any)) (lk bl none) op with
 | none=>rfl
 | some r=>obtain ⟨v,wr⟩:=r; cases wr <;> rfl
theorem opsDF_nil (fr:List (Nat × V)) (bl:List (Nat × Option Blk)) (fp:List Fp) (k:St→List Fp→Option β):opsDK T [] ⟨fr,bl⟩ fp k = k ⟨fr,bl⟩ fp:=rfl
theorem endD_ok {l:List SOper} {ps:List (Nat × Nat)} {s:St} {fp:List Fp} (k:St→Option β) (h:apartAll l fp.reverse ps = true):endD l ps k s fp = k s:=if_pos h
theorem specP_fp {d:Option Nat} {st:Nat} {g g' : Option (Nat × Bool)} {fr:Nat→V} {bl:Nat→Option Blk} {wr:List (Nat × Option Blk)} (t:Nat) (b:Bool) (op:SOp):fpOf ⟨d,specP t b op,g,st⟩ fr bl wr = fpOf ⟨d,op,g',st⟩ fr bl wr:=by
 cases op with
 | pick c x y =>
  cases c with
  | t t' =>
   simp only [specP]
   split <;> rfl
  | c v=>rfl
 | _=>rfl
theorem specO_runT {C:Nat→List D→Option D} {s:St} {t:Nat} {b:Bool} (h:s.get t = .d (.bool b)) (o:SOper):runOpT C (specO t b o) s = runOpT C o s:=by
 obtain ⟨d,op,g,st⟩:=o
 cases g with
 | some g =>
  obtain ⟨t',w⟩:=g
  simp only [specO]
  split
  ·rename_i e
   subst e
   split
   ·rename_i e
    subst e
    simp only [runOpT,SOper.wants,h,specP_aop h]
    cases w <;> simp only [wantG] <;> cases aop C st (evo s.get) s.blk op <;> first | rfl | (simp [specP_fp (g':=some (t',false)),specP_fp (g':=some (t',true))]; done) | (simp [specP_fp (g':=some (t',false)),specP_fp (g':=some (t',true))]; rfl)
   ·rename_i e
    simp only [runOpT,SOper.wants,h,aop,evo]
    cases w <;> cases b <;> simp_all [wantG,fpOf,SOp.new,SOp.peeks,SOp.deeps]
  ·simp only [runOpT,SOper.wants,specP_aop h]
   cases wantG (s.get t') w <;> simp only [] <;> cases aop C st (evo s.get) s.blk op <;> simp [specP_fp (g':=some (t',w))]
 | none =>
  simp only [specO,runOpT,SOper.wants,specP_aop h]
  cases aop C st (evo s.get) s.blk op <;> simp [specP_fp (g':=none)]
theorem runOpT_get {C:Nat→List D→Option D} {o:SOper} {s s' : St} {p:Fp} {t:Nat} (h:¬ o.dst = some t) (e:runOpT C o s = some (s',p)):s'.get t = s.get t:=by
 unfold runOpT at e
 split at e
 ·split at e
  ·cases e; exact get_put_ne h
  ·cases e
 ·cases e; exact get_put_ne h
 ·cases e
theorem specL_runD {t:Nat} {b:Bool}:∀ (l:List SOper) {s:St} (fp:List Fp) (k:St→List Fp→Option β) (h:s.get t = .d (.bool b)),opsDK T (specL t b l) s fp k = opsDK T l s fp k
 | [],s,fp,k,h=>rfl
 | o :: l,s,fp,k,h=>by
  simp only [specL,opsDK,specO_runT h]
  cases e:runOpT (call T) o s with
  | none=>rfl
  | some q =>
   obtain ⟨s',p⟩:=q
   simp only
   split
   ·rfl
   ·rename_i hd
    exact specL_runD l _ k (by rw [runOpT_get hd e]; exact h)
noncomputable def guardDL (T:Tbl) (v:V) (t:Nat) (l:List SOper) (s:St) (fp:List Fp) (k:St→List Fp→Option β):Option β:=match v with
 | .d (.bool b)=>if b = true then opsDK T (specL t true l) s fp k else opsDK T (specL t false l) s fp k
 | .tup []=>match l with
  | o :: r=>opsDK T r (s.put o.dst (.tup []) []) (([],[]) :: fp) k
  | []=>none
 | _=>none
theorem opsDF_guard (d:Option Nat) (op:SOp) (t:Nat) (w:Bool) (st:Nat) (l:List SOper) (fr:List (Nat × V)) (bl:List (Nat × Option Blk)) (fp:List Fp) (k:St→List Fp→Option β) :
  opsDK T (⟨d,op,some (t,w),st⟩ :: l) ⟨fr,bl⟩ fp k = getK fr t fun v=>guardDL T v t (⟨d,op,some (t,w),st⟩ :: l) ⟨fr,bl⟩ fp k:=by
 show _ = guardDL T (lk fr .any t) t _ _ fp k
 generalize hv:lk fr .any t = v
 have bad:∀ (q:wantG v w = .bad),opsDK T (⟨d,op,some (t,w),st⟩ :: l) ⟨fr,bl⟩ fp k = none:=by
  intro q
  simp only [opsDK,runOpT,SOper.wants]
  rw [show (St.get ⟨fr,bl⟩ t) = v from hv,q]
 cases v with
 | d x =>
  cases x with
  | bool b =>
   simp only [guardDL]
   cases b with
   | true=>rw [if_pos rfl,specL_runD (t:=t) (b:=true) (s:=⟨fr,bl⟩) _ _ _ hv]
   | false=>rw [if_neg (by decide),specL_runD (t:=t) (b:=false) (s:=⟨fr,bl⟩) _ _ _ hv]
  | _=>exact bad rfl
 | tup vs =>
  cases vs with
  | nil =>
   simp only [guardDL,opsDK,runOpT,SOper.wants]
   rw [show (St.get ⟨fr,bl⟩ t) = _ from hv]
   rfl
  | cons x l=>exact bad rfl
 | _=>exact bad rfl
theorem guardDL_b (b:Bool) (t:Nat) (l:List SOper) (s:St) (fp:List Fp) (k:St→List Fp→Option β):guardDL T (.d (.bool b)) t l s fp k = if b = true then opsDK T (specL t true l) s fp k else opsDK T (specL t false l) s fp k:=rfl
theorem guardDL_u (t d st:Nat) (op:SOp) (g:Option (Nat × Bool)) (l:List SOper) (fr:List (Nat × V)) (bl:List (Nat × Option Blk)) (fp:List Fp) (k:St→List Fp→Option β):guardDL T (.tup []) t (⟨some d,op,g,st⟩ :: l) ⟨fr,bl⟩ fp k = opsDK T l ⟨(d,.tup []) :: fr,bl⟩ (([],[]) :: fp) k:=rfl
theorem guardDL_u0 (t st:Nat) (op:SOp) (g:Option (Nat × Bool)) (l:List SOper) (fr:List (Nat × V)) (bl:List (Nat × Option Blk)) (fp:List Fp) (k:St→List Fp→Option β):guardDL T (.tup []) t (⟨none,op,g,st⟩ :: l) ⟨fr,bl⟩ fp k = opsDK T l ⟨fr,bl⟩ (([],[]) :: fp) k:=rfl
theorem opsDK_congr {l l' : List SOper} {s:St} {fp:List Fp} {k:St→List Fp→Option β} (h:l = l'):opsDK T l s fp k = opsDK T l' s fp k:=by rw [h]
theorem dgetL_z (x:D) (ds:List D) (k:D→Option β):dgetK (x :: ds) 0 k = k x:=rfl
theorem dgetL_s (x:D) (ds:List D) (n:Nat) (k:D→Option β):dgetK (x :: ds) (n + 1) k = dgetK ds n k:=rfl
section
variable {d:Nat} {fr:List (Nat × V)} {bl:List (Nat × Option Blk)} {k:List Nat→Option β}
def idsK (v:V) (k:List Nat→Option β):Option β:=k v.ids
theorem idsK_d (x:D):idsK (.d x) k = k []:=rfl
theorem idsK_nil:idsK .nil k = k []:=rfl
theorem idsK_any:idsK .any k = k []:=rfl
theorem idsK_ptr (i o:Nat):idsK (.ptr i o) k = k [i]:=rfl
theorem idsK_own (i o:Nat):idsK (.own i o) k = k [i]:=rfl
theorem idsK_orow (i v j o:Nat):idsK (.orow i v j o) k = k [i]:=rfl
def didsCK (bl:List (Nat × Option Blk)):List V→(List Nat→Option β)→Option β
 | [],k=>k []
 | c :: cs,k=>k (c.dids1 (lk bl none) ++ cs.flatMap (V.dids1 (lk bl none)))
def didsK (bl:List (Nat × Option Blk)) (v:V) (k:List Nat→Option β):Option β:=k (v.dids (lk bl none))
theorem didsCK_eq (cs:List V):didsCK bl cs k = k (cs.flatMap (V.dids1 (lk bl none))):=by cases cs <;> rfl
theorem didsCK_nil:didsCK bl [] k = k []:=rfl
theorem didsCK_d (x:D) (cs:List V):didsCK bl (.d x :: cs) k = didsCK bl cs k:=by simp only [didsCK_eq]; rfl
theorem didsCK_n (cs:List V):didsCK bl (.nil :: cs) k = didsCK bl cs k:=by simp only [didsCK_eq]; rfl
theorem didsCK_any (cs:List V):didsCK bl (.any :: cs) k = didsCK bl cs k:=by simp only [didsCK_eq]; rfl
theorem didsCK_own (i o:Nat) (cs:List V):didsCK bl (.own i o :: cs) k = didsCK bl cs fun l=>k (i :: l):=by simp only [didsCK_eq]; rfl
theorem didsK_d (x:D):didsK bl (.d x) k = k []:=rfl
theorem didsK_nil:didsK bl .nil k = k []:=rfl
theorem didsK_own (i o:Nat):didsK bl (.own i o) k = k [i]:=rfl
theorem didsK_agg (cs:List V):didsK bl (.agg cs) k = didsCK bl cs k:=by rw [didsCK_eq]; rfl
theorem dids_dcells (ds:List D):(dcells ds).flatMap (V.dids1 (lk bl none)) = []:=by
 induction ds with
 | nil=>rfl
 | cons x ds ih=>exact ih
theorem didsK_aggD (ds:List D):didsK bl (aggD ds) k = k []:=by
 show k ((dcells ds).flatMap (V.dids1 (lk bl none))) = _
 rw [dids_dcells]
theorem ids1_dcells (ds:List D):(dcells ds).flatMap V.ids1 = []:=by
 induction ds with
 | nil=>rfl
 | cons x ds ih=>exact ih
def bidsCK:List V→(List Nat→Option β)→Option β
 | [],k=>k []
 | c :: cs,k=>k (c.ids1 ++ cs.flatMap V.ids1)
theorem bidsCK_eq (cs:List V):bidsCK cs k = k (cs.flatMap V.ids1):=by cases cs <;> rfl
theorem bidsCK_nil:bidsCK [] k = k []:=rfl
theorem bidsCK_d (x:D) (cs:List V):bidsCK (.d x :: cs) k = bidsCK cs k:=by simp only [bidsCK_eq]; rfl
theorem bidsCK_n (cs:List V):bidsCK (.nil :: cs) k = bidsCK cs k:=by simp only [bidsCK_eq]; rfl
theorem bidsCK_any (cs:List V):bidsCK (.any :: cs) k = bidsCK cs k:=by simp only [bidsCK_eq]; rfl
theorem bidsCK_own (i o:Nat) (cs:List V):bidsCK (.own i o :: cs) k = bidsCK cs fun l=>k (i :: l):=by simp only [bidsCK_eq]; rfl
theorem bidsCK_ptr (i o:Nat) (cs:List V):bidsCK (.ptr i o :: cs) k = bidsCK cs fun l=>k (i :: l):=by simp only [bidsCK_eq]; rfl
def bidsK (b:Option Blk) (k:List Nat→Option β):Option β:=match b with
 | some (.box cs)=>k (cs.flatMap V.ids1)
 | _=>k []
theorem bidsK_box (c:V) (cs:List V):bidsK (some (.box (c :: cs))) k = bidsCK (c :: cs) k:=by rw [bidsCK_eq]; rfl
theorem bidsK_packed (ds:List D):bidsK (some (.box (dcells ds))) k = k []:=by
 show k ((dcells ds).flatMap V.ids1) = _
 rw [ids1_dcells]
theorem bidsK_fbox (ds:List D):bidsK (some (.fbox ds)) k = k []:=rfl
theorem bidsK_none:bidsK none k = k []:=rfl
theorem dids_ptr (i o:Nat):(V.ptr i o).dids1 (lk bl none) = i :: (match lk bl none i with | some (.box cs)=>cs.flatMap V.ids1 | _=>[]):=rfl
theorem didsK_ptr (i o:Nat):didsK bl (.ptr i o) k = blkK bl i fun b=>bidsK b fun l=>k (i :: l):=by
 unfold didsK blkK bidsK
 show k ((V.ptr i o).dids1 (lk bl none)) = _
 rw [dids_ptr]
 cases lk bl none i with
 | none=>rfl
 | some b=>cases b <;> rfl
theorem didsCK_ptr (i o:Nat) (cs:List V):didsCK bl (.ptr i o :: cs) k = didsK bl (.ptr i o) fun m=>didsCK bl cs fun l=>k (m ++ l):=by simp only [didsCK_eq]; rfl
theorem fpK_fail:fpK d .fail fr bl k = k []:=rfl
theorem fpK_move (x:Opd):fpK d (.move x) fr bl k = k []:=rfl
theorem fpK_pick (a b c:Opd):fpK d (.pick a b c) fr bl k = k []:=rfl
theorem fpK_alloc (z:List V):fpK d (.alloc z) fr bl k = k [d]:=rfl
theorem fpK_box (x:Opd):fpK d (.box x) fr bl k = k [d]:=rfl
theorem fpK_build (z:List V) (ps:List (Nat × Nat × Opd)):fpK d (.build z ps) fr bl k = k []:=rfl
theorem fpK_makeSlice (e s b:Nat) (z:List D) (x y:Opd):fpK d (.makeSlice e s b z x y) fr bl k = k [d]:=rfl
theorem fp1 (l:List Nat):([]:List Nat) ++ ((l ++ []) ++ []) = l:=by simp
theorem fpK_load (s:Nat) (a:Bool) (x:Opd):fpK d (.load s a x) fr bl k = opdK fr x fun v=>idsK v k:=by
 show k ([] ++ (((evo (lk fr .any) x).ids ++ []) ++ [])) = _
 rw [fp1]; rfl
theorem fpK_nilCheck (x:Opd):fpK d (.nilCheck x) fr bl k = opdK fr x fun v=>idsK v k:=by
 show k ([] ++ (((evo (lk fr .any) x).ids ++ []) ++ [])) = _
 rw [fp1]; rfl
theorem fpK_fieldAddr (o:Nat) (x:Opd):fpK d (.fieldAddr o x) fr bl k = opdK fr x fun v=>idsK v k:=by
 show k ([] ++ (((evo (lk fr .any) x).ids ++ []) ++ [])) = _
 rw [fp1]; rfl
theorem fpK_len (x:Opd):fpK d (.len x) fr bl k = opdK fr x fun v=>idsK v k:=by
 show k ([] ++ (((evo (lk fr .any) x).ids ++ []) ++ [])) = _
 rw [fp1]; rfl
theorem fpK_slice (s:Nat) (x:Opd) (lo hi:Option Opd):fpK d (.slice s x lo hi) fr bl k = opdK fr x fun v=>idsK v k:=by
 show k ([] ++ (((evo (lk fr .any) x).ids ++ []) ++ [])) = _
 rw [fp1]; rfl
theorem fpK_indexAddr (s:Nat) (x i:Opd):fpK d (.indexAddr s x i) fr bl k = opdK fr x fun v=>idsK v k:=by
 show k ([] ++ (((evo (lk fr .any) x).ids ++ []) ++ [])) = _
 rw [fp1]; rfl
theorem fpK_store (s:Nat) (x v:Opd):fpK d (.store s x v) fr bl k = opdK fr x fun a=>idsK a fun l=>opdK fr v fun b=>didsK bl b fun m=>k (l ++ m):=by
 show k ([] ++ (((evo (lk fr .any) x).ids ++ []) ++ ((evo (lk fr .any) v).dids (lk bl none) ++ []))) = _
 rw [List.nil_append,List.append_nil,List.append_nil]; rfl
theorem fpK_append (e s b:Nat) (x y:Opd):fpK d (.append e s b x y) fr bl k = opdK fr x fun u=>idsK u fun l=>opdK fr y fun v=>idsK v fun m=>k (d :: (l ++ m)):=by
 show k ([d] ++ (((evo (lk fr .any) x).ids ++ ((evo (lk fr .any) y).ids ++ [])) ++ [])) = _
 rw [List.append_nil,List.append_nil]; rfl
def deepsK (fr:List (Nat × V)) (bl:List (Nat × Option Blk)):List Opd→(List Nat→Option β)→Option β
 | [],k=>k []
 | x :: l,k=>opdK fr x fun v=>didsK bl v fun m=>deepsK fr bl l fun n=>k (m ++ n)
theorem deepsK_eq (l:List Opd):∀ (k:List Nat→Option β),deepsK fr bl l k = k (l.flatMap fun x=>(evo (lk fr .any) x).dids (lk bl none)):=by
 induction l with
 | nil=>intro k; rfl
 | cons x l ih=>intro k; simp only [deepsK,opdK,didsK,ih,List.flatMap_cons]
theorem deepsK_nil (k:List Nat→Option β):deepsK fr bl [] k = k []:=rfl
theorem deepsK_cons (x:Opd) (l:List Opd) (k:List Nat→Option β):deepsK fr bl (x :: l) k = opdK fr x fun v=>didsK bl v fun m=>deepsK fr bl l fun n=>k (m ++ n):=rfl
theorem fpK_call (f:Nat) (args:List Opd):fpK d (.call f args) fr bl k = deepsK fr bl args k:=by
 rw [deepsK_eq]; rfl
theorem fpK_mkfn (f:Nat) (args:List Opd):fpK d (.mkfn f args) fr bl k = deepsK fr bl args k:=by
 rw [deepsK_eq]; rfl
theorem fpK_callv (g:Opd) (args:List Opd):fpK d (.callv g args) fr bl k = deepsK fr bl args k:=by
 rw [deepsK_eq]; rfl
def deepsP (fr:List (Nat × V)) (bl:List (Nat × Option Blk)):List (Nat × Opd)→(List Nat→Option β)→Option β
 | [],k=>k []
 | (_,x) :: l,k=>opdK fr x fun v=>didsK bl v fun m=>deepsP fr bl l fun n=>k (m ++ n)
theorem deepsP_eq (l:List (Nat × Opd)):∀ (k:List Nat→Option β),deepsP fr bl l k = k ((l.map fun p=>p.2).flatMap fun x=>(evo (lk fr .any) x).dids (lk bl none)):=by
 induction l with
 | nil=>intro k; rfl
 | cons x l ih=>intro k; obtain ⟨i,x⟩:=x; simp only [deepsP,opdK,didsK,ih,List.map_cons,List.flatMap_cons]
theorem deepsP_nil (k:List Nat→Option β):deepsP fr bl [] k = k []:=rfl
theorem deepsP_cons (i:Nat) (x:Opd) (l:List (Nat × Opd)) (k:List Nat→Option β):deepsP fr bl ((i,x) :: l) k = opdK fr x fun v=>didsK bl v fun m=>deepsP fr bl l fun n=>k (m ++ n):=rfl
theorem fpK_buildSlice (e s n:Nat) (z:List D) (ps:List (Nat × Opd)):fpK d (.buildSlice e s z n ps) fr bl k = deepsP fr bl ps fun l=>k (d :: l):=by
 rw [deepsP_eq]; rfl
theorem fpK_bin (c:Nat) (op:BinOp) (x y:Opd):fpK d (.bin c op x y) fr bl k = k []:=rfl
theorem fpK_eqS (ks:List Nat) (n:Bool) (x y:Opd):fpK d (.eqS ks n x y) fr bl k = k []:=rfl
theorem fpK_un (op:UnOp) (x:Opd):fpK d (.un op x) fr bl k = k []:=rfl
theorem fpK_conv (kd:IntKind) (x:Opd):fpK d (.conv kd x) fr bl k = k []:=rfl
theorem fpK_strSlice (x:Opd) (lo hi:Option Opd):fpK d (.strSlice x lo hi) fr bl k = k []:=rfl
theorem fpK_field (o s:Nat) (a:Bool) (x:Opd):fpK d (.field o s a x) fr bl k = k []:=rfl
theorem fpK_index (x i:Opd):fpK d (.index x i) fr bl k = k []:=rfl
theorem fpK_lenS (x:Opd):fpK d (.lenS x) fr bl k = k []:=rfl
theorem fpK_max (l:List Opd):fpK d (.max l) fr bl k = k []:=rfl
theorem fpK_min (l:List Opd):fpK d (.min l) fr bl k = k []:=rfl
theorem fpK_bytes (x:Opd):fpK d (.bytes x) fr bl k = k []:=rfl
theorem fpK_extract (x:Opd) (i:Nat):fpK d (.extract x i) fr bl k = k []:=rfl
theorem evF_draw {k:Ex→St→Option β} (l:List SOper) (ps:List (Nat × Nat)):evK T (.region l (some ps)) ⟨fr,bl⟩ k = opsDK T l ⟨fr,bl⟩ [] (endD l ps (k .normal)):=by
 rw [evK_draw,opsD_eq]
end
section
variable {d:Nat} {fr:List (Nat × V)} {bl:List (Nat × Option Blk)} {k:V→Option β} {kw:V→List (Nat × Option Blk)→Option β}
theorem fzK_aa (a b c:List (Nat × Option Blk)) (v:V):fzK ((a ++ b) ++ c) v k kw = fzK (a ++ (b ++ c)) v k kw:=by rw [List.append_assoc]
def fzN (id:Nat) (f:List (Nat × Option Blk)) (x:Option β):Option β:=if notIn id f = true then x else none
theorem notIn_app (id:Nat) (b:List (Nat × Option Blk)):∀ a:List (Nat × Option Blk),notIn id (a ++ b) = if notIn id a = true then notIn id b else false
 | []=>rfl
 | (i,x) :: a=>by
  simp only [List.cons_append,notIn]
  by_cases h:i = id
  ·simp [h]
  ·simp only [if_neg h]; exact notIn_app id b a
theorem fzN_nil (id:Nat) (x:Option β):fzN id [] x = x:=rfl
theorem fzN_c (id i:Nat) (b:Option Blk) (w:List (Nat × Option Blk)) (x:Option β) (h:(i == id) = false):fzN id ((i,b) :: w) x = fzN id w x:=by
 have h:¬ i = id:=by simpa using h
 simp only [fzN,notIn,if_neg h]
theorem fzN_app (id:Nat) (a b:List (Nat × Option Blk)) (x:Option β):fzN id (a ++ b) x = fzN id a (fzN id b x):=by
 unfold fzN
 rw [notIn_app]
 by_cases h:notIn id a = true
 ·rw [if_pos h,if_pos h]
 ·rw [if_neg h,if_neg h]; rfl
def rowSetK (row:List D) (off:Nat) (ds:List D) (size:Nat) (k:List D→Option β):Option β:=if ds.length = size ∧ off + size ≤ row.length then k (setAt row off ds) else none
theorem rowSetK_drop (c:D) (cs:List D) (off:Nat) (e:D) (ds:List D) (n:Nat) (k:List D→Option β):rowSetK (c :: cs) (off + 1) (e :: ds) n k = rowSetK cs off (e :: ds) n fun l=>k (c :: l):=by
 unfold rowSetK
 simp only [List.length_cons,setAt]
 by_cases h:ds.length + 1 = n ∧ off + n ≤ cs.length
 ·exact (if_pos (by omega)).trans (if_pos h).symm
 ·exact (if_neg (by omega)).trans (if_neg h).symm
theorem rowSetK_put (c:D) (cs:List D) (e:D) (ds:List D) (n:Nat) (k:List D→Option β):rowSetK (c :: cs) 0 (e :: ds) (n + 1) k = rowSetK cs 0 ds n fun l=>k (e :: l):=by
 unfold rowSetK
 simp only [List.length_cons,setAt]
 by_cases h:ds.length = n ∧ 0 + n ≤ cs.length
 ·exact (if_pos (by omega)).trans (if_pos h).symm
 ·exact (if_neg (by omega)).trans (if_neg h).symm
theorem rowSetK_nil (cs:List D) (k:List D→Option β):rowSetK cs 0 [] 0 k = k cs:=by
 unfold rowSetK
 rw [if_pos ⟨rfl,by omega⟩,setAt_nil]
def setRowsK (e:Nat) (rows:List (List D)) (i:Nat) (row:List D) (k:List (List D)→Option β):Option β:=k (rows.set i row)
theorem setRowsK_p {α:Type} (e:Nat) (c:α→List D) (xs:List α) (i:Nat) (x:α) (k:List (List D)→Option β):setRowsK e (cM c xs) i (c x) k = k (cM c (xs.set i x)):=by
 unfold setRowsK
 rw [cM_set]
theorem storeOF {α:Type} (size v i off id e sz:Nat) (w:V) (c:α→List D) (xs:List α):storeOK size v i off id w bl (some (.rows v e sz (cM c xs))) kw = rowK w bl fun ds f=>fzN id f (xs[i]?.bind fun x=>rowSetK (c x) off ds size fun row=>setRowsK e (cM c xs) i row fun rows=>kw .any ((id,some (.rows v e sz rows)) :: f)):=by
 unfold storeOK rowK
 simp only [storeO,if_true,cM,List.getElem?_map]
 cases xs[i]? with
 | none =>
  simp only [Option.map_none,Option.bind_none]
  cases mapM' (toD1 (lk bl none)) w.cells with
  | none=>rfl
  | some ds=>simp only [fzN]; split <;> rfl
 | some x =>
  simp only [Option.map_some,Option.bind_some]
  cases mapM' (toD1 (lk bl none)) w.cells with
  | none=>rfl
  | some ds =>
   simp only [rowSetK,setRowsK,fzN]
   by_cases h1:notIn id (fz2 (lk bl none) w) = true
   ·rw [if_pos h1]
    by_cases h2:ds.length = size ∧ off + size ≤ (c x).length
    ·rw [if_pos h2,if_pos ⟨h2.1,h2.2,h1⟩]; rfl
    ·rw [if_neg h2,if_neg (fun q=>h2 ⟨q.1,q.2.1⟩)]; rfl
   ·rw [if_neg h1,if_neg (fun q=>h1 q.2.2)]; rfl
end
end
section
variable {β:Type} {T:Tbl} {bl:List (Nat × Option Blk)} {k:V→Option β} {kw:V→List (Nat × Option Blk)→Option β}
def sliceBK (size id ver:Nat) (lo hi:Option V) (b:Option Blk) (k:V→Option β) (kw:V→List (Nat × Option Blk)→Option β):Option β:=ansK (sliceV (fun _=>b) size (.own id ver) lo hi) k kw
theorem sliceK_own (size id ver:Nat) (lo hi:Option V):sliceK size (.own id ver) lo hi bl k kw = blkK bl id fun b=>sliceBK size id ver lo hi b k kw:=by
 unfold sliceK blkK sliceBK
 congr 1
 cases lo with
 | none=>cases hi with
  | none=>rfl
  | some h=>cases h with
   | d x=>cases x <;> rfl
   | _=>rfl
 | some l=>rfl
theorem sliceBK_gen {α:Type} (size id v:Nat) (c:α→List D) (xs:List α) (hs:sized size (cM c xs) = true) (b:Blk) (wr:List (Nat × Option Blk)) (lo hi:Option V) (l h:Int) (hl:sliceI lo 0 = some l) (hh:sliceI hi (xs.length:Int) = some h)
  (hb:rowsOf (fun _=>some b) (.own id v) = some (cM c xs)) (hw:fz1 (fun _=>some b) (.own id v) = wr) (hn:lo = none→hi = none) :
  sliceBK size id v lo hi (some b) k kw = if sliceOk xs.length l h then ansK (some (.d (.sl (cM c (sliceL xs l h))),wr)) k kw else none:=by
 have e0:sliceV (fun _=>some b) size (.own id v) lo hi = (match sliceI hi ((cM c xs).length:Int),sliceI lo 0 with
   | some h,some l=>if 0 ≤ l ∧ l ≤ h ∧ h.toNat ≤ (cM c xs).length ∧ sized size (cM c xs) = true then some (.d (.sl (((cM c xs).take h.toNat).drop l.toNat)),wr) else none
   | _,_=>none):=by
  cases lo with
  | none =>
   obtain rfl:=hn rfl
   unfold sliceV
   simp only [hb,hw]
   rfl
  | some w =>
   unfold sliceV
   simp only [hb,hw]
   rfl
 unfold sliceBK
 rw [e0,show ((cM c xs).length:Int) = (xs.length:Int) by simp [cM],hl,hh]
 simp only [show (cM c xs).length = xs.length by simp [cM]]
 by_cases q:sliceOk xs.length l h
 ·rw [if_pos q,if_pos ⟨q.1,q.2.1,q.2.2,hs⟩]
  simp only [cM,sliceL,List.map_drop,List.map_take]
 ·rw [if_neg q,if_neg (fun w=>q ⟨w.1,w.2.1,w.2.2.1⟩)]; rfl
section
variable {α:Type} (size id v:Nat) (c:α→List D) (xs:List α) (hs:sized size (cM c xs) = true)
include hs
theorem sliceBK_ln (e s:Nat) (kd:IntKind) (l:Int):sliceBK size id v (some (.d (.int kd l))) none (some (.rows v e s (cM c xs))) k kw = if sliceOk xs.length l (xs.length:Int) then kw (.d (.sl (cM c (sliceL xs l (xs.length:Int))))) [(id,some (.froz v (cM c xs)))] else none :=
 sliceBK_gen size id v c xs hs _ _ _ _ _ _ rfl rfl (by simp [rowsOf]) rfl (fun h=>by cases h)
theorem sliceBK_lh (e s:Nat) (kd kd' : IntKind) (l h:Int):sliceBK size id v (some (.d (.int kd l))) (some (.d (.int kd' h))) (some (.rows v e s (cM c xs))) k kw = if sliceOk xs.length l h then kw (.d (.sl (cM c (sliceL xs l h)))) [(id,some (.froz v (cM c xs)))] else none :=
 sliceBK_gen size id v c xs hs _ _ _ _ _ _ rfl rfl (by simp [rowsOf]) rfl (fun h=>by cases h)
theorem sliceBK_nn (e s:Nat):sliceBK size id v none none (some (.rows v e s (cM c xs))) k kw = if sliceOk xs.length 0 (xs.length:Int) then kw (.d (.sl (cM c (sliceL xs 0 (xs.length:Int))))) [(id,some (.froz v (cM c xs)))] else none :=
 sliceBK_gen size id v c xs hs _ _ _ _ _ _ rfl rfl (by simp [rowsOf]) rfl (fun _=>rfl)
theorem sliceBF_ln (kd:IntKind) (l:Int):sliceBK size id v (some (.d (.int kd l))) none (some (.froz v (cM c xs))) k kw = if sliceOk xs.length l (xs.length:Int) then k (.d (.sl (cM c (sliceL xs l (xs.length:Int))))) else none :=
 sliceBK_gen size id v c xs hs _ _ _ _ _ _ rfl rfl (by simp [rowsOf]) rfl (fun h=>by cases h)
theorem sliceBF_lh (kd kd' : IntKind) (l h:Int):sliceBK size id v (some (.d (.int kd l))) (some (.d (.int kd' h))) (some (.froz v (cM c xs))) k kw = if sliceOk xs.length l h then k (.d (.sl (cM c (sliceL xs l h)))) else none :=
 sliceBK_gen size id v c xs hs _ _ _ _ _ _ rfl rfl (by simp [rowsOf]) rfl (fun h=>by cases h)
theorem sliceBF_nn:sliceBK size id v none none (some (.froz v (cM c xs))) k kw = if sliceOk xs.length 0 (xs.length:Int) then k (.d (.sl (cM c (sliceL xs 0 (xs.length:Int))))) else none :=
 sliceBK_gen size id v c xs hs _ _ _ _ _ _ rfl rfl (by simp [rowsOf]) rfl (fun _=>rfl)
end
theorem sliceBK_nh {α:Type} (size id v e s:Nat) (c:α→List D) (xs:List α) (kd:IntKind) (h:Int):sliceBK size id v none (some (.d (.int kd h))) (some (.rows v e s (cM c xs))) k kw = if 0 ≤ h ∧ h.toNat ≤ xs.length then kw (.own id (v + 1)) [(id,some (.rows (v + 1) e s (cM c (xs.take h.toNat))))] else none:=by
 unfold sliceBK sliceV
 simp only [cM,List.length_map,true_and,List.map_take]
 split <;> rfl
end
end Vm
end Go.Proofs.Ytmekbfccmnjdcaa
set_option linter.unusedVariables false
set_option linter.unusedSimpArgs false
namespace Go.Proofs.Ytmekbfccmnjdcaa
namespace Vm
open Go.RowKit
section
variable {β:Type} {T:Tbl} {d:Nat} {fr:List (Nat × V)} {bl:List (Nat × Option Blk)} {k:V→Option β} {kw:V→List (Nat × Option Blk)→Option β}
def cutK (size:Nat) (a:V) (lo hi:Option V) (bl:List (Nat × Option Blk)) (kw:V→List (Nat × Option Blk)→Option β):Option β:=match cutV (lk bl none) size a lo hi with
 | some (v,wr)=>kw v wr
 | none=>none
def cutBK (size id ver:Nat) (lo hi:Option V) (b:Option Blk) (kw:V→List (Nat × Option Blk)→Option β):Option β:=match cutV (fun _=>b) size (.own id ver) lo hi with
 | some (v,wr)=>kw v wr
 | none=>none
theorem cutV_ne {bl:Nat→Option Blk} {size:Nat} {a:V} {lo hi:Option V} {v:V} {wr:List (Nat × Option Blk)} (h:cutV bl size a lo hi = some (v,wr)):∃ p l,wr = p :: l:=by
 unfold cutV at h
 split at h
 ·split at h
  ·split at h
   ·split at h
    ·cases h; exact ⟨_,_,rfl⟩
    ·cases h
   ·cases h
  ·cases h
 ·cases h
theorem opK_cut (size:Nat) (x:Opd) (lo hi:Option Opd):opK T d (.cut size x lo hi) fr bl k kw = opdK fr x fun a=>optK fr lo fun l=>optK fr hi fun h=>cutK size a l h bl kw:=by
 rw [opK_ans]
 simp only [aop]
 have e:∀ (o:Option Opd) (g:Option V→Option β),optK fr o g = g (o.map (evo (lk fr .any))):=fun o g=>by cases o <;> rfl
 simp only [e,opdK,cutK,ansK]
 cases h:cutV (lk bl none) size (evo (lk fr .any) x) (lo.map (evo (lk fr .any))) (hi.map (evo (lk fr .any))) with
 | none=>rfl
 | some r =>
  obtain ⟨v,wr⟩:=r
  obtain ⟨p,l,rfl⟩:=cutV_ne h
  rfl
theorem cutK_own (size id ver:Nat) (lo hi:Option V):cutK size (.own id ver) lo hi bl kw = blkK bl id fun b=>cutBK size id ver lo hi b kw:=rfl
theorem cutBK_ln {α:Type} (c:α→List D) (xs:List α) (e s id v:Nat) (kd:IntKind) (l:Int):cutBK s id v (some (.d (.int kd l))) none (some (.rows v e s (cM c xs))) kw = if sliceOk xs.length l (xs.length:Int) then kw (.own id (v + 1)) [(id,some (.rows (v + 1) e s (cM c (sliceL xs l (xs.length:Int)))))] else none:=by
 have e1:(cM c xs).length = xs.length:=List.length_map ..
 have e2:((cM c xs).take (Int.toNat (xs.length:Int))).drop l.toNat = cM c (sliceL xs l (xs.length:Int)):=by unfold cM sliceL; rw [List.map_drop,List.map_take]
 by_cases h:sliceOk xs.length l (xs.length:Int)
 ·rw [if_pos h]
  simp only [cutBK,cutV,e1,e2]
  rw [if_pos ⟨trivial,trivial,h⟩]
 ·rw [if_neg h]
  simp only [cutBK,cutV,e1,e2]
  rw [if_neg fun q=>h q.2.2]
theorem cutBK_lh {α:Type} (c:α→List D) (xs:List α) (e s id v:Nat) (kd kd' : IntKind) (l m:Int):cutBK s id v (some (.d (.int kd l))) (some (.d (.int kd' m))) (some (.rows v e s (cM c xs))) kw = if sliceOk xs.length l m then kw (.own id (v + 1)) [(id,some (.rows (v + 1) e s (cM c (sliceL xs l m))))] else none:=by
 have e1:(cM c xs).length = xs.length:=List.length_map ..
 have e2:((cM c xs).take m.toNat).drop l.toNat = cM c (sliceL xs l m):=by unfold cM sliceL; rw [List.map_drop,List.map_take]
 by_cases h:sliceOk xs.length l m
 ·rw [if_pos h]
  simp only [cutBK,cutV,e1,e2]
  rw [if_pos ⟨trivial,trivial,h⟩]
 ·rw [if_neg h]
  simp only [cutBK,cutV,e1,e2]
  rw [if_neg fun q=>h q.2.2]
def clearK (z:List D) (a:V) (bl:List (Nat × Option Blk)) (k:V→Option β) (kw:V→List (Nat × Option Blk)→Option β):Option β:=ansK (match a with
  | .nil=>some (.any,[])
  | .own id ver=>match lk bl none id with
   | some (.rows v e size rows)=>if ver = v ∧ z.length = size then some (.any,[(id,some (.rows v e size (List.replicate rows.length z)))]) else none
   | _=>none
  | _=>none) k kw
def clearBK (z:List D) (id ver:Nat) (b:Option Blk) (kw:V→List (Nat × Option Blk)→Option β):Option β:=match b with
 | some (.rows v e size rows)=>if ver = v ∧ z.length = size then kw .any [(id,some (.rows v e size (List.replicate rows.length z)))] else none
 | _=>none
def isnilK (neg:Bool) (a:V) (bl:List (Nat × Option Blk)) (k:V→Option β):Option β:=match isnilV (lk bl none) neg a with
 | some d=>k (.d d)
 | none=>none
def isnilBK (neg:Bool) (ver:Nat) (b:Option Blk) (k:V→Option β):Option β:=match b with
 | some (.rows v _ _ rows)=>if ver = v ∧ 0 < rows.length then k (.d (.bool neg)) else none
 | some (.froz v rows)=>if ver = v ∧ 0 < rows.length then k (.d (.bool neg)) else none
 | _=>none
theorem isnilBK_rows {α:Type} (c:α→List D) (xs:List α) (neg:Bool) (v e size:Nat):isnilBK neg v (some (.rows v e size (cM c xs))) k = if 0 < xs.length then k (.d (.bool neg)) else none:=by
 unfold isnilBK
 simp only [cM_length,true_and]
theorem isnilBK_froz {α:Type} (c:α→List D) (xs:List α) (neg:Bool) (v:Nat):isnilBK neg v (some (.froz v (cM c xs))) k = if 0 < xs.length then k (.d (.bool neg)) else none:=by
 unfold isnilBK
 simp only [cM_length,true_and]
theorem opK_isnil (neg:Bool) (x:Opd):opK T d (.isnil neg x) fr bl k kw = opdK fr x fun a=>isnilK neg a bl k:=by
 unfold opK opdK isnilK
 simp only [aop,Res.v]
 cases isnilV (lk bl none) neg (evo (lk fr .any) x) <;> rfl
theorem isnilK_nil (neg:Bool):isnilK neg .nil bl k = k (.d (.bool (!neg))):=rfl
theorem isnilK_own (neg:Bool) (id ver:Nat):isnilK neg (.own id ver) bl k = blkK bl id fun b=>isnilBK neg ver b k:=by
 unfold isnilK isnilV isnilBK blkK
 simp only [rowsOf]
 cases lk bl none id with
 | none=>rfl
 | some b =>
  cases b with
  | rows v e size rows =>
   simp only
   by_cases q:ver = v
   ·cases rows <;> simp [q]
   ·simp [q]
  | froz v rows =>
   simp only
   by_cases q:ver = v
   ·cases rows <;> simp [q]
   ·simp [q]
  | _=>rfl
theorem opK_clear (z:List D) (x:Opd):opK T d (.clear z x) fr bl k kw = opdK fr x fun a=>clearK z a bl k kw:=by
 rw [opK_ans]
 rfl
theorem clearK_nil (z:List D):clearK z .nil bl k kw = k .any:=rfl
theorem clearK_own (z:List D) (id ver:Nat):clearK z (.own id ver) bl k kw = blkK bl id fun b=>clearBK z id ver b kw:=by
 unfold clearK blkK clearBK
 simp only
 cases lk bl none id with
 | none=>rfl
 | some b =>
  cases b with
  | rows v e size rows =>
   simp only
   split <;> rfl
  | _=>rfl
def nthK:List Opd→Nat→(Opd→Option β)→Option β
 | [],_,_=>none
 | x :: _,0,g=>g x
 | _ :: l,n + 1,g=>nthK l n g
theorem nthK_z (x:Opd) (l:List Opd) (g:Opd→Option β):nthK (x :: l) 0 g = g x:=rfl
theorem nthK_s (x:Opd) (l:List Opd) (n:Nat) (g:Opd→Option β):nthK (x :: l) (n + 1) g = nthK l n g:=rfl
theorem nthK_eq (g:Opd→Option β):∀ (l:List Opd) (n:Nat),nthK l n g = l[n]?.bind g
 | [],_=>rfl
 | _ :: _,0=>rfl
 | _ :: l,n + 1=>nthK_eq g l n
def ownK (v:V) (g:Nat→Nat→Option β):Option β:=match v with
 | .own id ver=>g id ver
 | _=>none
theorem ownK_o (id ver:Nat) (g:Nat→Nat→Option β):ownK (.own id ver) g = g id ver:=rfl
def lentK (v:V) (bl:List (Nat × Option Blk)) (g:D→Option β):Option β:=(lentV (lk bl none) v).bind g
def lentBK (ver:Nat) (b:Option Blk) (g:D→Option β):Option β:=match b with
 | some (.rows v e size rows)=>if ver = v then g (.own (.ref 0) [(e,size)] [rows]) else none
 | _=>none
theorem lentK_own (id ver:Nat) (g:D→Option β):lentK (.own id ver) bl g = blkK bl id fun b=>lentBK ver b g:=by
 unfold lentK blkK lentBK lentV
 simp only
 cases lk bl none id with
 | none=>rfl
 | some b =>
  cases b with
  | rows v e size rows=>simp only; split <;> rfl
  | _=>rfl
theorem lentBK_rows (v e s:Nat) (rows:List (List D)) (g:D→Option β):lentBK v (some (.rows v e s rows)) g = g (.own (.ref 0) [(e,s)] [rows]):=if_pos rfl
def argsL (fr:List (Nat × V)) (bl:List (Nat × Option Blk)) (t:Nat):Nat→List Opd→(List D→List (Nat × Option Blk)→Option β)→Option β
 | _,[],g=>g [] []
 | i,x :: l,g=>opdK fr x fun v=>if i = t then lentK v bl fun y=>argsL fr bl t (i + 1) l fun ds f=>g (y :: ds) f else toDK v bl fun y f=>argsL fr bl t (i + 1) l fun ds f'=>g (y :: ds) (f ++ f')
theorem argsL_nil (t i:Nat) (g:List D→List (Nat × Option Blk)→Option β):argsL fr bl t i [] g = g [] []:=rfl
theorem argsL_hit (t i:Nat) (x:Opd) (l:List Opd) (g:List D→List (Nat × Option Blk)→Option β) (h:(i == t) = true):argsL fr bl t i (x :: l) g = opdK fr x fun v=>lentK v bl fun y=>argsL fr bl t (i + 1) l fun ds f=>g (y :: ds) f:=by
 have:i = t:=by simpa using h
 simp only [argsL,if_pos this]
theorem argsL_miss (t i:Nat) (x:Opd) (l:List Opd) (g:List D→List (Nat × Option Blk)→Option β) (h:(i == t) = false):argsL fr bl t i (x :: l) g = opdK fr x fun v=>toDK v bl fun y f=>argsL fr bl t (i + 1) l fun ds f'=>g (y :: ds) (f ++ f'):=by
 have:¬ i = t:=by simpa using h
 simp only [argsL,if_neg this]
theorem argsL_eq (t:Nat):∀ (l:List Opd) (i:Nat) (g:List D→List (Nat × Option Blk)→Option β),argsL fr bl t i l g = (lendD (lk bl none) t i (l.map (evo (lk fr .any)))).bind fun ds=>g ds (lendFz (lk bl none) t i (l.map (evo (lk fr .any))))
 | [],i,g=>rfl
 | x :: l,i,g=>by
  simp only [argsL,List.map_cons,lendD,lendFz,opdK]
  by_cases h:i = t
  ·simp only [if_pos h,lentK,argsL_eq t l (i + 1)]
   cases lentV (lk bl none) (evo (lk fr .any) x) with
   | none=>rfl
   | some y =>
    cases lendD (lk bl none) t (i + 1) (l.map (evo (lk fr .any))) with
    | none=>rfl
    | some ds=>simp
  ·simp only [if_neg h,toDK,argsL_eq t l (i + 1)]
   cases toD2 (lk bl none) (evo (lk fr .any) x) with
   | none=>rfl
   | some y=>cases lendD (lk bl none) t (i + 1) (l.map (evo (lk fr .any))) <;> rfl
noncomputable def lendF (T:Tbl) (bl:List (Nat × Option Blk)) (f id ver:Nat) (ds:List D) (kw:V→List (Nat × Option Blk)→Option β):Option β:=match call T f ds with
 | some (.own y [(e,size)] [rows'])=>match lk bl none id with
  | some (.rows v e' size' _)=>if ver = v ∧ e = e' ∧ size = size' ∧ flat y = true ∧ flatRows rows' = true then kw (toV y) [(id,some (.rows v e size rows'))] else none
  | _=>none
 | _=>none
theorem opK_lend (f:Nat) (args:List Opd) (t:Nat):opK T d (.lend f args t) fr bl k kw = nthK args t fun x=>opdK fr x fun v=>ownK v fun id ver=>argsL fr bl t 0 args fun ds fz=>fzN id fz (lendF T bl f id ver ds kw):=by
 rw [opK_ans,nthK_eq]
 simp only [aop,List.getElem?_map]
 cases args[t]? with
 | none=>rfl
 | some x =>
  simp only [Option.map_some,Option.bind_some,opdK]
  generalize evo (lk fr .any) x = v
  cases v with
  | own id ver =>
   simp only [ownK,argsL_eq]
   cases lendD (lk bl none) t 0 (args.map (evo (lk fr .any))) with
   | none=>rfl
   | some ds =>
    simp only [Option.bind_some,fzN]
    split
    ·unfold lendF
     generalize call T f ds = r
     generalize lk bl none id = b
     split
     ·split
      ·split
       ·rename_i hq
        exact (if_pos hq).symm
       ·rename_i hq
        exact (if_neg hq).symm
      ·rename_i hq
       cases b with
       | none=>rfl
       | some b=>cases b <;> first | rfl | exact absurd rfl (hq _ _ _ _)
     ·rename_i hq
      split
      ·exact absurd rfl (hq _ _ _ _)
      ·rfl
    ·rfl
  | _=>rfl
def backBK (ver e size:Nat) (rows' : List (List D)) (b:Option Blk) (g:Option Blk→Option β):Option β:=match b with
 | some (.rows v e' s' _)=>if ver = v ∧ e = e' ∧ size = s' then g (some (.rows v e size rows')) else none
 | _=>none
theorem backBK_rows (v e s:Nat) (rows rows' : List (List D)) (g:Option Blk→Option β):backBK v e s rows' (some (.rows v e s rows)) g = g (some (.rows v e s rows')):=if_pos ⟨rfl,rfl,rfl⟩
theorem lendF_own {α:Type} {f e size:Nat} {ds:List D} {o:Option α} {y:α→D} {r:α→List (List D)} (h:call T f ds = o.map fun x=>.own (y x) [(e,size)] [r x]) (hy:∀ x,flat (y x) = true) (hr:∀ x,flatRows (r x) = true) (id ver:Nat) :
  lendF T bl f id ver ds kw = o.bind fun x=>blkK bl id fun b=>backBK ver e size (r x) b fun b'=>kw (toV (y x)) [(id,b')]:=by
 unfold lendF
 rw [h]
 cases o with
 | none=>rfl
 | some x =>
  simp only [Option.map_some,Option.bind_some,blkK,backBK,hy x,hr x,and_true]
theorem flat_cM {α:Type} (c:α→List D) (hc:∀ x,(c x).all flat1 = true) (xs:List α):flatRows (cM c xs) = true:=by
 unfold flatRows cM
 rw [List.all_eq_true]
 intro row hr
 obtain ⟨x,_,rfl⟩:=List.mem_map.1 hr
 exact hc x
def finL (res:List SRes) (t:Nat):Ex→St→Option D
 | .normal,s=>finishL ⟨0,0,res,.skip,true,true⟩ s t
 | .ret,s=>finishL ⟨0,0,res,.skip,true,true⟩ s t
 | .exit _,_=>none
def lastK (ver:Nat) (b:Option Blk) (g:Nat→Nat→List (List D)→Option D):Option D:=match b with
 | some (.rows v e size rows)=>if ver = v then g e size rows else none
 | _=>none
theorem lastK_rows (v e s:Nat) (rows:List (List D)) (g:Nat→Nat→List (List D)→Option D):lastK v (some (.rows v e s rows)) g = g e s rows:=if_pos rfl
def flatIf (e s:Nat) (rows:List (List D)) (y:D):Option D:=if flat y = true then some (.own y [(e,s)] [rows]) else none
theorem flatIf_0 (e s:Nat) (rows:List (List D)):flatIf e s rows (.tup []) = some (.own (.tup []) [(e,s)] [rows]):=rfl
theorem flatIf_i (e s:Nat) (rows:List (List D)) (k:IntKind) (n:Int):flatIf e s rows (.int k n) = some (.own (.int k n) [(e,s)] [rows]):=rfl
theorem flatIf_b (e s:Nat) (rows:List (List D)) (b:Bool):flatIf e s rows (.bool b) = some (.own (.bool b) [(e,s)] [rows]):=rfl
theorem finL_go (res:List SRes) (t:Nat):finishL ⟨0,0,res,.skip,true,true⟩ ⟨fr,bl⟩ t = getK fr t fun v=>ownK v fun id ver=>blkK bl id fun b=>lastK ver b fun e s rows=>(resF fr bl res packR).bind (flatIf e s rows):=by
 unfold finishL getK
 rw [get_mk]
 cases lk fr .any t with
 | own id ver =>
  simp only [ownK,blkK,lastK]
  rw [blk_fn]
  cases lk bl none id with
  | none=>rfl
  | some b =>
   cases b with
   | rows v e size rows =>
    simp only
    split
    ·rw [← finR_go]
     cases mapM' (resV ⟨fr,bl⟩) res with
     | none=>rfl
     | some us =>
      cases us with
      | nil=>rfl
      | cons u us=>cases us with
       | nil=>simp only [blk_fn]; cases toD2 (lk bl none) u <;> rfl
       | cons w us=>simp only [blk_fn]; cases toD (lk bl none) (.tup (u :: w :: us)) <;> rfl
    ·rfl
   | _=>rfl
 | _=>rfl
theorem finL_n (res:List SRes) (t:Nat):finL res t .normal ⟨fr,bl⟩ = getK fr t fun v=>ownK v fun id ver=>blkK bl id fun b=>lastK ver b fun e s rows=>(resF fr bl res packR).bind (flatIf e s rows):=finL_go res t
theorem finL_r (res:List SRes) (t:Nat):finL res t .ret ⟨fr,bl⟩ = getK fr t fun v=>ownK v fun id ver=>blkK bl id fun b=>lastK ver b fun e s rows=>(resF fr bl res packR).bind (flatIf e s rows):=finL_go res t
theorem finL_e (res:List SRes) (t i:Nat) (s:St):finL res t (.exit i) s = none:=rfl
theorem packR_0:packR [] = some (.tup []):=rfl
end
section
variable {β:Type} {T:Tbl}
end
section
variable {β:Type} {T:Tbl} {fr:List (Nat × V)} {bl:List (Nat × Option Blk)}
def slotsK (fr:List (Nat × V)):List Nat→(List V→Option β)→Option β
 | [],k=>k []
 | t :: l,k=>getK fr t fun v=>slotsK fr l fun vs=>k (v :: vs)
theorem slotsK_eq (l:List Nat) (k:List V→Option β):slotsK fr l k = k (l.map (lk fr .any)):=by
 induction l generalizing k with
 | nil=>rfl
 | cons x l ih=>simp only [slotsK,getK,ih,List.map_cons]
theorem slotsK_nil (k:List V→Option β):slotsK fr [] k = k []:=rfl
theorem slotsK_cons (t:Nat) (l:List Nat) (k:List V→Option β):slotsK fr (t :: l) k = getK fr t fun v=>slotsK fr l fun vs=>k (v :: vs):=rfl
def inK0 (args:List Opd) (id:Nat) (slots:List Nat) (fr:List (Nat × V)) (bl:List (Nat × Option Blk)) (k:List (Nat × V)→List (Nat × Option Blk)→Option β):Option β :=
 blkK bl id fun b=>noneK b (slotsK fr slots fun cs=>opdsK fr args fun vs=>k (initV 0 vs) ((id,some (.outer cs)) :: bl))
def inK (args:List Opd) (id:Nat) (slots:List Nat) (s:St) (k:List (Nat × V)→List (Nat × Option Blk)→Option β):Option β:=inK0 args id slots s.fr s.bl k
theorem inK_go (args:List Opd) (id:Nat) (slots:List Nat) (k:List (Nat × V)→List (Nat × Option Blk)→Option β):inK args id slots ⟨fr,bl⟩ k = blkK bl id fun b=>noneK b (slotsK fr slots fun cs=>opdsK fr args fun vs=>k (initV 0 vs) ((id,some (.outer cs)) :: bl)):=rfl
theorem initV_nil (i:Nat):initV i [] = []:=rfl
theorem initV_cons (i:Nat) (v:V) (l:List V):initV i (v :: l) = (i,v) :: initV (i + 1) l:=rfl
theorem inlIn_K (args:List Opd) (id:Nat) (slots:List Nat) (k:St→Option β):(inlIn args id slots ⟨fr,bl⟩).bind k = inK args id slots ⟨fr,bl⟩ fun fr' bl'=>k ⟨fr',bl'⟩:=by
 unfold inlIn inK inK0 blkK noneK
 rw [blk_mk]
 cases hb:lk bl none id with
 | some b=>rfl
 | none =>
  simp only [Option.isNone_none,if_true,Option.bind_some,slotsK_eq,opdsK_eq]
  rfl
def resB (fr:List (Nat × V)) (bl:List (Nat × Option Blk)):List SRes→(List V→Option β)→Option β
 | [],k=>k []
 | .tmp t :: r,k=>getK fr t fun v=>resB fr bl r fun l=>k (v :: l)
 | .cell t size isAgg :: r,k=>getK fr t fun p=>loadK size isAgg p bl fun v=>resB fr bl r fun l=>k (v :: l)
theorem resB_eq (res:List SRes):∀ (k:List V→Option β),resB fr bl res k = (mapM' (resV ⟨fr,bl⟩) res).bind k:=by
 induction res with
 | nil=>intro k; rfl
 | cons r res ih =>
  intro k
  cases r with
  | tmp t =>
   simp only [resB,getK,ih,mapM',resV,get_mk]
   cases mapM' (resV ⟨fr,bl⟩) res <;> rfl
  | cell t size isAgg =>
   simp only [resB,getK,loadK_eq,ih,mapM',resV,aop_load,get_mk,blk_fn]
   cases loadR size isAgg (lk fr .any t) (lk bl none) with
   | none=>rfl
   | some q =>
    obtain ⟨v,wr⟩:=q
    simp only [Option.bind_some]
    cases mapM' (resV ⟨fr,bl⟩) res <;> rfl
theorem resB_nil (k:List V→Option β):resB fr bl [] k = k []:=rfl
theorem resB_t (t:Nat) (r:List SRes) (k:List V→Option β):resB fr bl (.tmp t :: r) k = getK fr t fun v=>resB fr bl r fun l=>k (v :: l):=rfl
theorem resB_c (t size:Nat) (isAgg:Bool) (r:List SRes) (k:List V→Option β):resB fr bl (.cell t size isAgg :: r) k = getK fr t fun p=>loadK size isAgg p bl fun v=>resB fr bl r fun l=>k (v :: l):=rfl
def backK (dst:Option Nat) (slots:List Nat) (cs vs:List V) (k:List (Nat × V)→Option β):Option β :=
 match vs with
 | [v]=>k (dstV dst v ++ slots.zip cs)
 | vs=>if vs.all V.noTup = true then k (dstV dst (.tup vs) ++ slots.zip cs) else none
theorem backK_one (dst:Option Nat) (slots:List Nat) (cs:List V) (v:V) (k:List (Nat × V)→Option β):backK dst slots cs [v] k = k (dstV dst v ++ slots.zip cs):=rfl
theorem backK_nil (dst:Option Nat) (slots:List Nat) (cs:List V) (k:List (Nat × V)→Option β):backK dst slots cs [] k = k (dstV dst (.tup []) ++ slots.zip cs):=rfl
theorem backK_more (dst:Option Nat) (slots:List Nat) (cs:List V) (v u:V) (l:List V) (k:List (Nat × V)→Option β):backK dst slots cs (v :: u :: l) k = if (v :: u :: l).all V.noTup = true then k (dstV dst (.tup (v :: u :: l)) ++ slots.zip cs) else none:=rfl
theorem dstV_some (d:Nat) (v:V) (l:List (Nat × V)):dstV (some d) v ++ l = (d,v) :: l:=rfl
theorem dstV_none (v:V) (l:List (Nat × V)):dstV none v ++ l = l:=rfl
theorem zipV_nil:([]:List Nat).zip ([]:List V) = []:=rfl
theorem zipV_cons (t:Nat) (v:V) (l:List Nat) (r:List V):(t :: l).zip (v :: r) = (t,v) :: l.zip r:=rfl
def outerK (b:Option Blk) (k:List V→Option β):Option β:=match b with
 | some (.outer cs)=>k cs
 | _=>none
theorem outerK_o (cs:List V) (k:List V→Option β):outerK (some (.outer cs)) k = k cs:=rfl
def outK (dst:Option Nat) (res:List SRes) (id:Nat) (slots:List Nat) (fr:List (Nat × V)) (bl:List (Nat × Option Blk)) (k:List (Nat × V)→List (Nat × Option Blk)→Option β):Option β :=
 blkK bl id fun b=>outerK b fun cs=>resB fr bl res fun vs=>backK dst slots cs vs fun fr'=>k fr' ((id,none) :: bl)
theorem outK_go (dst:Option Nat) (res:List SRes) (id:Nat) (slots:List Nat) (k:List (Nat × V)→List (Nat × Option Blk)→Option β):outK dst res id slots fr bl k = blkK bl id fun b=>outerK b fun cs=>resB fr bl res fun vs=>backK dst slots cs vs fun fr'=>k fr' ((id,none) :: bl):=rfl
theorem inlOut_K (dst:Option Nat) (res:List SRes) (id:Nat) (slots:List Nat) (k:St→Option β):(inlOut dst res id slots ⟨fr,bl⟩).bind k = outK dst res id slots fr bl fun fr' bl'=>k ⟨fr',bl'⟩:=by
 unfold inlOut outK blkK
 rw [blk_mk]
 cases hb:lk bl none id with
 | none=>cases mapM' (resV ⟨fr,bl⟩) res <;> rfl
 | some b =>
  cases b with
  | outer cs =>
   simp only [outerK,resB_eq]
   cases mapM' (resV ⟨fr,bl⟩) res with
   | none=>rfl
   | some vs =>
    simp only [Option.bind_some]
    cases vs with
    | nil=>rfl
    | cons v vs=>cases vs with
     | nil=>rfl
     | cons u vs =>
      rw [backK_more]
      show (if (v :: u :: vs).all V.noTup = true then some _ else none).bind k = _
      split <;> rfl
  | _=>cases mapM' (resV ⟨fr,bl⟩) res <;> rfl
def afterK (dst:Option Nat) (res:List SRes) (id:Nat) (slots:List Nat) (k:Ex→St→Option β):Ex→St→Option β
 | .normal,s=>(inlOut dst res id slots s).bind fun s4=>k .normal s4
 | .ret,s=>(inlOut dst res id slots s).bind fun s4=>k .normal s4
 | .exit _,_=>none
theorem afterK_n (dst:Option Nat) (res:List SRes) (id:Nat) (slots:List Nat) (k:Ex→St→Option β):afterK dst res id slots k .normal ⟨fr,bl⟩ = outK dst res id slots fr bl fun fr' bl'=>k .normal ⟨fr',bl'⟩:=inlOut_K dst res id slots _
theorem afterK_r (dst:Option Nat) (res:List SRes) (id:Nat) (slots:List Nat) (k:Ex→St→Option β):afterK dst res id slots k .ret ⟨fr,bl⟩ = outK dst res id slots fr bl fun fr' bl'=>k .normal ⟨fr',bl'⟩:=inlOut_K dst res id slots _
theorem evF_inl {k:Ex→St→Option β} (ops:List SOper) (args:List Opd) (dst:Option Nat) (f:Nat) (body:SCode) (res:List SRes) (id:Nat) (slots:List Nat) :
  evK T (.inl ops args dst f body res id slots) ⟨fr,bl⟩ k = opsK T ops ⟨fr,bl⟩ fun s1=>inK args id slots s1 fun fr' bl'=>evK T body ⟨fr',bl'⟩ (afterK dst res id slots k):=by
 rw [evK_inl]
 congr 1
 funext s1
 refine Eq.trans ?_ (inlIn_K (fr:=s1.fr) (bl:=s1.bl) args id slots fun s=>evK T body s (afterK dst res id slots k))
 congr 1
 funext s2
 congr 1
 funext ex s3
 cases ex <;> rfl
def normUK (keep:List Nat) (bl:List (Nat × Option Blk)):List V→(List V→Option β)→Option β
 | [],k=>k []
 | v :: cs,k=>normK keep bl v fun v'=>normUK keep bl cs fun l=>k (v' :: l)
theorem normUK_eq (keep:List Nat) (cs:List V):∀ (k:List V→Option β),normUK keep bl cs k = k (cs.map (norm3 keep (lk bl none))):=by
 induction cs with
 | nil=>intro k; rfl
 | cons v cs ih=>intro k; simp only [normUK,normK,ih,List.map_cons]
theorem normUK_nil (keep:List Nat) (k:List V→Option β):normUK keep bl [] k = k []:=rfl
theorem normUK_cons (keep:List Nat) (v:V) (cs:List V) (k:List V→Option β):normUK keep bl (v :: cs) k = normK keep bl v fun v'=>normUK keep bl cs fun l=>k (v' :: l):=rfl
theorem normBK_outer (keep:List Nat) (cs:List V) (k:Option Blk→Option β):normBK keep bl (some (.outer cs)) k = normUK keep bl cs fun l=>k (some (.outer l)):=by rw [normUK_eq]; rfl
end
section
variable {β:Type} {T:Tbl} {d:Nat} {fr:List (Nat × V)} {bl:List (Nat × Option Blk)} {k:V→Option β} {kw:V→List (Nat × Option Blk)→Option β}
noncomputable def callN' (T:Tbl) (d:Nat) (bl:List (Nat × Option Blk)) (f:Nat) (ds:List D) (k:V→Option β) (kw:V→List (Nat × Option Blk)→Option β):Option β:=match call T f ds with
 | some (.own x es rs)=>if newOnly x rs = true then ansK (callRes d (lk bl none) [] (.own x es rs)) k kw else none
 | _=>none
theorem opK_calln (f:Nat) (args:List Opd):opK T d (.calln f args) fr bl k kw = argsF fr bl args fun ds _=>callN' T d bl f ds k kw:=by
 rw [opK_ans,argsF_eq]
 simp only [aop]
 cases mapM' (fun x=>toD2 (lk bl none) (evo (lk fr .any) x)) args with
 | none=>rfl
 | some ds =>
  simp only [Option.bind_some,callN']
  cases call T f ds with
  | none=>rfl
  | some y =>
   cases y with
   | own x es rs=>simp only; split <;> rfl
   | _=>rfl
theorem fpK_calln (f:Nat) (args:List Opd) (k:List Nat→Option β):fpK d (.calln f args) fr bl k = deepsK fr bl args k:=by
 rw [deepsK_eq]; rfl
end
end Vm
end Go.Proofs.Ytmekbfccmnjdcaa
