/- The small machine's code, read from the front: what is left to do stands in a continuation. Equations by which the small machine's code is read (they are named in the proofs that a program prints). The small machine, read from the front by rewriting at the head only: every value is looked up before it is used. -/
import Derived.Test.YtmekbfccmnjdcaaVmD
set_option linter.unusedVariables false
set_option linter.unusedSimpArgs false
namespace Go.Proofs.Ytmekbfccmnjdcaa
namespace Vm
open Go.RowKit
section
variable {β:Type}
noncomputable def evK (T:Tbl) (c:SCode) (s:St) (k:Ex→St→Option β):Option β:=(ev T c s).bind fun p=>k p.1 p.2
noncomputable def opsK (T:Tbl) (l:List SOper) (s:St) (k:St→Option β):Option β:=(runOps (call T) l s).bind k
noncomputable def opsD (T:Tbl) (l:List SOper) (ps:List (Nat × Nat)) (s:St) (k:St→Option β):Option β:=(runRegion (call T) l (some ps) s).bind k
def resK (r:Res) (k:V→List (Nat × Option Blk)→Option β):Option β:=match r with
 | some (v,wr)=>k v wr
 | none=>none
def condK (v:V) (x y:Option β):Option β:=match v with
 | .d (.bool b)=>if b = true then x else y
 | _=>none
def seqK (k1:St→Option β) (k:Ex→St→Option β):Ex→St→Option β
 | .normal,s=>k1 s
 | e,s=>k e s
def blockK (id:Nat) (k:Ex→St→Option β):Ex→St→Option β
 | .exit id',s=>if id' = id then k .normal s else k (.exit id') s
 | e,s=>k e s
def postK (m:Mask) (k:Ex→St→Option β):Ex→St→Option β
 | .normal,s=>k .normal (m.app s)
 | e,s=>k e s
theorem condK_congr {v v' : V} {x y:Option β} (h:v = v'):condK v x y = condK v' x y:=by rw [h]
theorem resK_some (v:V) (wr:List (Nat × Option Blk)) (k:V→List (Nat × Option Blk)→Option β):resK (some (v,wr)) k = k v wr:=rfl
theorem condK_bool (b:Bool) (x y:Option β):condK (.d (.bool b)) x y = if b = true then x else y:=rfl
variable {T:Tbl} {k:Ex→St→Option β}
theorem evK_skip (s:St):evK T .skip s k = k .normal s:=by unfold evK; rw [ev_skip]; rfl
theorem evK_exit (id:Nat) (s:St):evK T (.exit id) s k = k (.exit id) s:=by unfold evK; rw [ev_exit]; rfl
theorem evK_ret (s:St):evK T .ret s k = k .ret s:=by unfold evK; rw [ev_ret]; rfl
theorem evK_region (l:List SOper) (s:St):evK T (.region l none) s k = opsK T l s (k .normal):=by
 unfold evK opsK
 rw [ev_region]
 simp only [runRegion]
 cases runOps (call T) l s <;> rfl
theorem evK_draw (l:List SOper) (ps:List (Nat × Nat)) (s:St):evK T (.region l (some ps)) s k = opsD T l ps s (k .normal):=by
 unfold evK opsD
 rw [ev_region]
 cases runRegion (call T) l (some ps) s <;> rfl
theorem evK_seq (a b:SCode) (s:St):evK T (.seq a b) s k = evK T a s (seqK (fun s'=>evK T b s' k) k):=by
 unfold evK
 rw [ev_seq]
 cases ev T a s with
 | none=>rfl
 | some r =>
  obtain ⟨e,s'⟩:=r
  cases e <;> rfl
theorem evK_cond (c:Opd) (a b:SCode) (s:St):evK T (.cond c a b) s k = condK (evo s.get c) (evK T a s k) (evK T b s k):=by
 unfold evK
 rw [ev_cond]
 generalize evo s.get c = v
 cases v with
 | d x=>cases x with
  | bool b=>cases b <;> rfl
  | _=>rfl
 | _=>rfl
theorem evK_block (id:Nat) (a:SCode) (s:St):evK T (.block id a) s k = evK T a s (blockK id k):=by
 unfold evK
 rw [ev_block]
 cases ev T a s with
 | none=>rfl
 | some r =>
  obtain ⟨e,s'⟩:=r
  cases e with
  | normal=>rfl
  | exit i =>
   simp only [Option.bind_some,blockK]
   by_cases h:i = id
   ·simp [h]
   ·simp [h]
  | ret=>rfl
theorem evK_pre (m:Mask) (a:SCode) (s:St):evK T (.pre m a) s k = evK T a (m.app s) k:=rfl
theorem evK_post (m:Mask) (a:SCode) (s:St):evK T (.post a m) s k = evK T a s (postK m k):=by
 unfold evK
 rw [ev_post]
 cases ev T a s with
 | none=>rfl
 | some r =>
  obtain ⟨e,s'⟩:=r
  cases e <;> rfl
theorem evK_loop {S X:Type} {step:S→Option (S ⊕ X)} {c:SCode} (enc:S→St) (out:X→Ex × St) (hout:∀ x s,out x ≠ (.normal,s))
  (h:∀ s,evK T c (enc s) (fun e s'=>some (e,s')) = stepR enc out (step s)) (s:S) :
  evK T (.loop c) (enc s) k = (Iter step s).bind fun x=>k (out x).1 (out x).2:=by
 unfold evK
 rw [loop_sim enc out hout (fun s=>by
  have:=h s
  unfold evK at this
  rw [← this]
  cases ev T c (enc s) <;> rfl) s]
 cases Iter step s <;> rfl
theorem evK_inl (ops:List SOper) (args:List Opd) (dst:Option Nat) (f:Nat) (body:SCode) (res:List SRes) (id:Nat) (slots:List Nat) (s:St) :
  evK T (.inl ops args dst f body res id slots) s k = opsK T ops s fun s1=>(inlIn args id slots s1).bind fun s2=>evK T body s2 fun ex s3=>match ex with
   | .exit _=>none
   | _=>(inlOut dst res id slots s3).bind fun s4=>k .normal s4:=by
 unfold evK opsK
 rw [ev_inl]
 cases runOps (call T) ops s with
 | none=>rfl
 | some s1 =>
  simp only [Option.bind_some]
  cases inlIn args id slots s1 with
  | none=>rfl
  | some s2 =>
   simp only [Option.bind_some]
   cases ev T body s2 with
   | none=>rfl
   | some q =>
    obtain ⟨e,s3⟩:=q
    cases e with
    | normal=>simp only [Option.bind_some]; cases inlOut dst res id slots s3 <;> rfl
    | exit i=>rfl
    | ret=>simp only [Option.bind_some]; cases inlOut dst res id slots s3 <;> rfl
theorem seqK_n (k1:St→Option β) (k:Ex→St→Option β) (s:St):seqK k1 k .normal s = k1 s:=rfl
theorem seqK_e (k1:St→Option β) (k:Ex→St→Option β) (i:Nat) (s:St):seqK k1 k (.exit i) s = k (.exit i) s:=rfl
theorem seqK_r (k1:St→Option β) (k:Ex→St→Option β) (s:St):seqK k1 k .ret s = k .ret s:=rfl
theorem blockK_n (id:Nat) (k:Ex→St→Option β) (s:St):blockK id k .normal s = k .normal s:=rfl
theorem blockK_e (id:Nat) (k:Ex→St→Option β) (i:Nat) (s:St):blockK id k (.exit i) s = if i = id then k .normal s else k (.exit i) s:=rfl
theorem blockK_r (id:Nat) (k:Ex→St→Option β) (s:St):blockK id k .ret s = k .ret s:=rfl
theorem postK_n (m:Mask) (k:Ex→St→Option β) (s:St):postK m k .normal s = k .normal (m.app s):=rfl
theorem postK_e (m:Mask) (k:Ex→St→Option β) (i:Nat) (s:St):postK m k (.exit i) s = k (.exit i) s:=rfl
theorem postK_r (m:Mask) (k:Ex→St→Option β) (s:St):postK m k .ret s = k .ret s:=rfl
theorem opsK_nil (s:St) (k:St→Option β):opsK T [] s k = k s:=rfl
theorem opsK_cons (d:Option Nat) (op:SOp) (st:Nat) (l:List SOper) (s:St) (k:St→Option β) :
  opsK T (⟨d,op,none,st⟩ :: l) s k = resK (aop (call T) st (evo s.get) s.blk op) fun v wr=>opsK T l (s.put d v wr) k:=by
 unfold opsK resK
 simp only [runOps,runOp,SOper.wants]
 cases aop (call T) st (evo s.get) s.blk op with
 | none=>rfl
 | some r=>rfl
noncomputable def opsDK (T:Tbl):List SOper→St→List Fp→(St→List Fp→Option β)→Option β
 | [],s,fp,k=>k s fp
 | o :: l,s,fp,k=>match runOpT (call T) o s with
  | some (s',p)=>opsDK T l s' (p :: fp) k
  | none=>none
theorem opsDK_eq (l:List SOper) (s:St) (fp:List Fp) (k:St→List Fp→Option β):opsDK T l s fp k = (runOpsT (call T) l s).bind fun r=>k r.1 (r.2.reverse ++ fp):=by
 induction l generalizing s fp with
 | nil=>rfl
 | cons o l ih =>
  simp only [opsDK,runOpsT]
  cases runOpT (call T) o s with
  | none=>rfl
  | some q =>
   obtain ⟨s',p⟩:=q
   simp only [ih]
   cases runOpsT (call T) l s' with
   | none=>rfl
   | some r=>obtain ⟨s'',ps⟩:=r; simp
def endD (l:List SOper) (ps:List (Nat × Nat)) (k:St→Option β) (s:St) (fp:List Fp):Option β:=if apartAll l fp.reverse ps = true then k s else none
theorem opsD_eq (l:List SOper) (ps:List (Nat × Nat)) (s:St) (k:St→Option β):opsD T l ps s k = opsDK T l s [] (endD l ps k):=by
 rw [opsDK_eq]
 unfold opsD
 simp only [runRegion]
 cases runOpsT (call T) l s with
 | none=>rfl
 | some r =>
  obtain ⟨s',fp⟩:=r
  simp only [Option.bind_some,endD,List.append_nil,List.reverse_reverse]
  cases h:apartAll l fp ps <;> simp
theorem opsDK_cons (d:Option Nat) (op:SOp) (st:Nat) (l:List SOper) (s:St) (fp:List Fp) (k:St→List Fp→Option β) :
  opsDK T (⟨d,op,none,st⟩ :: l) s fp k = resK (aop (call T) st (evo s.get) s.blk op) fun v wr=>opsDK T l (s.put d v wr) (fpOf ⟨d,op,none,st⟩ s.get s.blk wr :: fp) k:=by
 unfold resK
 simp only [opsDK,runOpT,SOper.wants]
 cases aop (call T) st (evo s.get) s.blk op with
 | none=>rfl
 | some r=>rfl
theorem get_mk (fr:List (Nat × V)) (bl:List (Nat × Option Blk)) (t:Nat):St.get ⟨fr,bl⟩ t = lk fr .any t:=rfl
theorem blk_mk (fr:List (Nat × V)) (bl:List (Nat × Option Blk)) (i:Nat):St.blk ⟨fr,bl⟩ i = lk bl none i:=rfl
theorem app_t (live keep:List Nat) (p:Nat × Nat × Nat × Nat) (l:List (Nat × Nat × Nat × Nat)) (c:List (Nat × Nat × Nat × Nat × Nat)) (ft:List Nat) (fc:List (Nat × Nat)) (s:St):Mask.app ⟨live,keep,p :: l,c,ft,fc⟩ s = Mask.app ⟨live,keep,l,c,ft,fc⟩ (mkT p s):=rfl
theorem app_c (live keep:List Nat) (p:Nat × Nat × Nat × Nat × Nat) (c:List (Nat × Nat × Nat × Nat × Nat)) (ft:List Nat) (fc:List (Nat × Nat)) (s:St):Mask.app ⟨live,keep,[],p :: c,ft,fc⟩ s = Mask.app ⟨live,keep,[],c,ft,fc⟩ (mkC p s):=rfl
theorem app_ft (live keep:List Nat) (p:Nat) (ft:List Nat) (fc:List (Nat × Nat)) (s:St):Mask.app ⟨live,keep,[],[],p :: ft,fc⟩ s = Mask.app ⟨live,keep,[],[],ft,fc⟩ (frT p s):=rfl
theorem app_fc (live keep:List Nat) (p:Nat × Nat) (fc:List (Nat × Nat)) (s:St):Mask.app ⟨live,keep,[],[],[],p :: fc⟩ s = Mask.app ⟨live,keep,[],[],[],fc⟩ (frC p s):=rfl
end
end Vm
end Go.Proofs.Ytmekbfccmnjdcaa
set_option linter.unusedVariables false
set_option linter.unusedSimpArgs false
namespace Go.Proofs.Ytmekbfccmnjdcaa
namespace Vm
open Go.RowKit
def at? {α:Type} (xs:List α) (n:Int):Option α:=if 0 ≤ n then xs[n.toNat]? else none
def cI (n:Int):List D:=[.int .i64 n]
def cB (b:Bool):List D:=[.bool b]
def cS (s:ByteArray):List D:=[.str s]
def cK (k:IntKind) (n:Int):List D:=[.int k n]
def cM {α:Type} (c:α→List D) (xs:List α):List (List D):=xs.map c
def cL {α:Type} (c:α→List D) (xs:List α):List D:=[.sl (cM c xs)]
def sliceL {α:Type} (xs:List α) (l h:Int):List α:=(xs.take h.toNat).drop l.toNat
def sliceOk (n:Nat) (l h:Int):Prop:=0 ≤ l ∧ l ≤ h ∧ h.toNat ≤ n
instance (n:Nat) (l h:Int):Decidable (sliceOk n l h):=inferInstanceAs (Decidable (_ ∧ _ ∧ _))
def sAt (s:ByteArray) (n:Int):Option Int:=if 0 ≤ n then s[n.toNat]?.map fun b=>(b.toNat:Int) else none
section
variable {β:Type} {T:Tbl} {site:Nat} {ev:Opd→V} {bl:Nat→Option Blk} (k:V→List (Nat × Option Blk)→Option β)
def idxR (size:Nat) (x i:V) (bl:Nat→Option Blk):Res:=match i with
  | .d (.int _ n)=>match x with
   | .own id ver=>match bl id with
    | some (.rows v e sz rows)=>if ver = v ∧ sz = size ∧ 0 ≤ n ∧ n.toNat < rows.length then some (.orow id ver n.toNat 0,[]) else none
    | some (.froz v rows)=>if ver = v ∧ 0 ≤ n then match rows[n.toNat]? with
     | some row=>if row.length = size then some (.d (.ptr row 0),[]) else none
     | none=>none
     else none
    | _=>none
   | .d (.sl rows)=>if 0 ≤ n then match rows[n.toNat]? with
    | some row=>if row.length = size then some (.d (.ptr row 0),[]) else none
    | none=>none
    else none
   | _=>none
  | _=>none
theorem aop_indexAddr (C:Nat→List D→Option D) (size:Nat) (x i:Opd):aop C site ev bl (.indexAddr size x i) = idxR size (ev x) (ev i) bl:=rfl
theorem idxR_sl {α:Type} (size:Nat) (c:α→List D) (xs:List α) (kd:IntKind) (n:Int) (bl:Nat→Option Blk):resK (idxR size (.d (.sl (cM c xs))) (.d (.int kd n)) bl) k = (at? xs n).bind fun x=>if (c x).length = size then k (.d (.ptr (c x) 0)) [] else none:=by
 simp only [idxR,at?,cM]
 by_cases h:0 ≤ n
 ·rw [if_pos h,if_pos h,List.getElem?_map]
  cases xs[n.toNat]? with
  | none=>rfl
  | some x =>
   simp only [Option.map_some,Option.bind_some]
   by_cases h2:(c x).length = size
   ·rw [if_pos h2,if_pos h2]; rfl
   ·rw [if_neg h2,if_neg h2]; rfl
 ·rw [if_neg h,if_neg h]; rfl
def idxB (size id ver:Nat) (n:Int) (b:Option Blk):Res:=match b with
 | some (.rows v e sz rows)=>if ver = v ∧ sz = size ∧ 0 ≤ n ∧ n.toNat < rows.length then some (.orow id ver n.toNat 0,[]) else none
 | some (.froz v rows)=>if ver = v ∧ 0 ≤ n then match rows[n.toNat]? with
  | some row=>if row.length = size then some (.d (.ptr row 0),[]) else none
  | none=>none
  else none
 | _=>none
theorem idxB_rows (size id ver v e sz:Nat) (n:Int) (rows:List (List D)) (k:V→List (Nat × Option Blk)→Option β):resK (idxB size id ver n (some (.rows v e sz rows))) k = if ver = v then (if sz = size then (if 0 ≤ n ∧ n.toNat < rows.length then k (.orow id ver n.toNat 0) [] else none) else none) else none:=by
 simp only [idxB]
 by_cases h1:ver = v
 ·by_cases h2:sz = size
  ·by_cases h3:0 ≤ n ∧ n.toNat < rows.length
   ·rw [if_pos ⟨h1,h2,h3⟩,if_pos h1,if_pos h2,if_pos h3]; rfl
   ·rw [if_neg (fun q=>h3 q.2.2),if_pos h1,if_pos h2,if_neg h3]; rfl
  ·rw [if_neg (fun q=>h2 q.2.1),if_pos h1,if_neg h2]; rfl
 ·rw [if_neg (fun q=>h1 q.1),if_neg h1]; rfl
theorem idxB_froz {α:Type} (size id ver v:Nat) (n:Int) (c:α→List D) (xs:List α) (k:V→List (Nat × Option Blk)→Option β):resK (idxB size id ver n (some (.froz v (cM c xs)))) k = if ver = v then ((at? xs n).bind fun x=>if (c x).length = size then k (.d (.ptr (c x) 0)) [] else none) else none:=by
 simp only [idxB,at?,cM]
 by_cases h1:ver = v
 ·by_cases h:0 ≤ n
  ·rw [if_pos ⟨h1,h⟩,if_pos h1,if_pos h,List.getElem?_map]
   cases xs[n.toNat]? with
   | none=>rfl
   | some x =>
    simp only [Option.map_some,Option.bind_some]
    by_cases h2:(c x).length = size
    ·rw [if_pos h2,if_pos h2]; rfl
    ·rw [if_neg h2,if_neg h2]; rfl
  ·rw [if_neg (fun q=>h q.2),if_pos h1,if_neg h]; rfl
 ·rw [if_neg (fun q=>h1 q.1),if_neg h1]; rfl
def loadD (size:Nat) (isAgg:Bool) (off:Nat) (row:List D):Res :=
 if isAgg then (if off + size ≤ row.length then some (.agg (((row.drop off).take size).map .d),[]) else none) else row[off]?.map fun v=>(.d v,[])
def loadB (size:Nat) (isAgg:Bool) (off:Nat) (b:Option Blk):Res:=match b with
 | some (.box cs) =>
  if isAgg then (if off + size ≤ cs.length then some (.agg ((cs.drop off).take size),[]) else none)
  else cs[off]?.map fun v=>(v,[])
 | some (.fbox row)=>loadD size isAgg off row
 | _=>none
def loadO (size:Nat) (isAgg:Bool) (ver i off:Nat) (b:Option Blk):Res:=match b with
 | some (.rows v e sz rows)=>if ver = v then match rows[i]? with
  | some row=>loadD size isAgg off row
  | none=>none
  else none
 | _=>none
def loadR (size:Nat) (isAgg:Bool) (x:V) (bl:Nat→Option Blk):Res:=match x with
 | .ptr id off=>loadB size isAgg off (bl id)
 | .d (.ptr row off)=>loadD size isAgg off row
 | .orow id ver i off=>loadO size isAgg ver i off (bl id)
 | _=>none
theorem aop_load (C:Nat→List D→Option D) (size:Nat) (isAgg:Bool) (x:Opd):aop C site ev bl (.load size isAgg x) = loadR size isAgg (ev x) bl:=rfl
theorem loadR_ptr (size:Nat) (isAgg:Bool) (id off:Nat) (bl:Nat→Option Blk):loadR size isAgg (.ptr id off) bl = loadB size isAgg off (bl id):=rfl
theorem loadR_o (size:Nat) (isAgg:Bool) (id ver i off:Nat) (bl:Nat→Option Blk):loadR size isAgg (.orow id ver i off) bl = loadO size isAgg ver i off (bl id):=rfl
theorem loadB_a (size off:Nat) (cs:List V):loadB size true off (some (.box cs)) = if off + size ≤ cs.length then some (.agg ((cs.drop off).take size),[]) else none:=rfl
theorem loadB_c (size off:Nat) (cs:List V):loadB size false off (some (.box cs)) = cs[off]?.map fun v=>(v,[]):=rfl
def storeO (size ver i off id:Nat) (fz:List (Nat × Option Blk)) (ds:Option (List D)) (b:Option Blk):Res:=match b with
 | some (.rows w e sz rows)=>if ver = w then match rows[i]?,ds with
  | some row,some ds=>if ds.length = size ∧ off + size ≤ row.length ∧ notIn id fz = true then some (.any,(id,some (.rows w e sz (rows.set i (setAt row off ds)))) :: fz) else none
  | _,_=>none
  else none
 | _=>none
def storeB (size off id:Nat) (v:V) (b:Option Blk):Res:=match b with
 | some (.box cs)=>if v.cells.length = size ∧ off + size ≤ cs.length ∧ v.known = true then some (.any,[(id,some (.box (setAt cs off v.cells)))]) else none
 | _=>none
def storeR (size:Nat) (x v:V) (bl:Nat→Option Blk):Res:=match x with
 | .ptr id off=>storeB size off id v (bl id)
 | .orow id ver i off=>storeO size ver i off id (fz2 bl v) (mapM' (toD1 bl) v.cells) (bl id)
 | _=>none
theorem aop_store (C:Nat→List D→Option D) (size:Nat) (x v:Opd):aop C site ev bl (.store size x v) = storeR size (ev x) (ev v) bl:=rfl
theorem storeR_p (size id off:Nat) (v:V) (bl:Nat→Option Blk):storeR size (.ptr id off) v bl = storeB size off id v (bl id):=rfl
theorem storeR_o (size id ver i off:Nat) (v:V) (bl:Nat→Option Blk):storeR size (.orow id ver i off) v bl = storeO size ver i off id (fz2 bl v) (mapM' (toD1 bl) v.cells) (bl id):=rfl
theorem storeB_box (size off id:Nat) (v:V) (cs:List V):storeB size off id v (some (.box cs)) = if v.cells.length = size ∧ off + size ≤ cs.length ∧ v.known = true then some (.any,[(id,some (.box (setAt cs off v.cells)))]) else none:=rfl
theorem aop_slice (C:Nat→List D→Option D) (size:Nat) (x:Opd) (lo hi:Option Opd):aop C site ev bl (.slice size x lo hi) = sliceV bl size (ev x) (lo.map ev) (hi.map ev):=rfl
def rowsB (ver:Nat) (b:Option Blk):Option (List (List D)):=match b with
 | some (.rows v _ _ rows)=>if ver = v then some rows else none
 | some (.froz v rows)=>if ver = v then some rows else none
 | _=>none
def sliceI (v:Option V) (d:Int):Option Int:=match v with
 | none=>some d
 | some (.d (.int _ h))=>some h
 | _=>none
theorem sliceV_sl {α:Type} (size:Nat) (c:α→List D) (xs:List α) (lo hi:Option V) (l h:Int) (hl:sliceI lo 0 = some l) (hh:sliceI hi (xs.length:Int) = some h) (hs:sized size (cM c xs) = true) (bl:Nat→Option Blk):resK (sliceV bl size (.d (.sl (cM c xs))) lo hi) k = if sliceOk xs.length l h then k (.d (.sl (cM c (sliceL xs l h)))) [] else none:=by
 have e0:∀ lo' hi',sliceV bl size (.d (.sl (cM c xs))) lo' hi' = (match sliceI hi' ((cM c xs).length:Int),sliceI lo' 0 with
   | some h,some l=>if 0 ≤ l ∧ l ≤ h ∧ h.toNat ≤ (cM c xs).length ∧ sized size (cM c xs) = true then some (.d (.sl (((cM c xs).take h.toNat).drop l.toNat)),[]) else none
   | _,_=>none):=fun lo' hi'=>rfl
 rw [e0,show ((cM c xs).length:Int) = (xs.length:Int) by simp [cM],hl,hh]
 simp only [show (cM c xs).length = xs.length by simp [cM]]
 by_cases q:sliceOk xs.length l h
 ·rw [if_pos q,if_pos ⟨q.1,q.2.1,q.2.2,hs⟩]
  simp only [resK_some,cM,sliceL,List.map_drop,List.map_take]
 ·rw [if_neg q,if_neg (fun w=>q ⟨w.1,w.2.1,w.2.2.1⟩)]; rfl
def indexR (x i:V):Res:=match x,i with
  | .d (.str s),.d (.int _ n)=>if 0 ≤ n then match s[n.toNat]? with
   | some b=>some (.d (.int .u8 b.toNat),[])
   | none=>none
   else none
  | _,_=>none
theorem aop_index (C:Nat→List D→Option D) (x i:Opd):aop C site ev bl (.index x i) = indexR (ev x) (ev i):=rfl
theorem indexR_s (s:ByteArray) (kd:IntKind) (n:Int):resK (indexR (.d (.str s)) (.d (.int kd n))) k = (sAt s n).bind fun b=>k (.d (.int .u8 b)) []:=by
 simp only [indexR,sAt]
 split
 ·cases s[n.toNat]? <;> rfl
 ·rfl
end
section
variable {S X:Type} {enc:S→St} {out:X→Ex × St}
theorem stepR_ite (c:Prop) [Decidable c] (a b:Option (S ⊕ X)):stepR enc out (if c then a else b) = if c then stepR enc out a else stepR enc out b:=by split <;> rfl
theorem stepR_bind {α:Type} (o:Option α) (f:α→Option (S ⊕ X)):stepR enc out (o.bind f) = o.bind fun x=>stepR enc out (f x):=by cases o <;> rfl
theorem stepR_none:stepR enc out none = none:=rfl
theorem stepR_inl (s:S):stepR enc out (some (.inl s)) = some (.normal,enc s):=rfl
theorem stepR_inr (x:X):stepR enc out (some (.inr x)) = some (out x):=rfl
end
theorem sized_cM {α:Type} (size:Nat) (c:α→List D) (hc:∀ x,(c x).length = size) (xs:List α):sized size (cM c xs) = true:=by
 simp [sized,cM,hc]
theorem sized_cI (xs:List Int):sized 1 (cM cI xs) = true:=sized_cM _ _ (fun x=>by rfl) xs
theorem sized_cK (k:IntKind) (xs:List Int):sized 1 (cM (cK k) xs) = true:=sized_cM _ _ (fun x=>by rfl) xs
theorem sized_cB (xs:List Bool):sized 1 (cM cB xs) = true:=sized_cM _ _ (fun x=>by rfl) xs
theorem sized_cS (xs:List ByteArray):sized 1 (cM cS xs) = true:=sized_cM _ _ (fun x=>by rfl) xs
theorem sized_cL {α:Type} (c:α→List D) (xs:List (List α)):sized 1 (cM (cL c) xs) = true:=sized_cM _ _ (fun x=>by rfl) xs
theorem cM_length {α:Type} (c:α→List D) (xs:List α):(cM c xs).length = xs.length:=by simp [cM]
theorem cM_append {α:Type} (c:α→List D) (xs ys:List α):cM c xs ++ cM c ys = cM c (xs ++ ys):=by simp [cM]
theorem cM_set {α:Type} (c:α→List D) (xs:List α) (i:Nat) (x:α):cM c (xs.set i x) = (cM c xs).set i (c x):=by simp [cM,List.map_set]
theorem cM_replicate {α:Type} (c:α→List D) (n:Nat) (x:α):cM c (List.replicate n x) = List.replicate n (c x):=by simp [cM]
theorem ite_bind {α γ:Type} (c:Prop) [Decidable c] (a b:Option α) (f:α→Option γ):(if c then a else b).bind f = if c then a.bind f else b.bind f:=by split <;> rfl
theorem ite_map {α γ:Type} (c:Prop) [Decidable c] (a b:Option α) (f:α→γ):(if c then a else b).map f = if c then a.map f else b.map f:=by split <;> rfl
theorem bind_map {α γ δ:Type} (o:Option α) (f:α→Option γ) (g:γ→δ):(o.bind f).map g = o.bind fun x=>(f x).map g:=by cases o <;> rfl
theorem none_bind {α γ:Type} (f:α→Option γ):(none:Option α).bind f = none:=rfl
theorem elim_bind {α γ δ ε:Type} (f:α→Option δ) (g:γ→Option δ) (x:α ⊕ γ) (h:δ→Option ε):(Sum.elim f g x).bind h = Sum.elim (fun y=>(f y).bind h) (fun y=>(g y).bind h) x:=by cases x <;> rfl
theorem elim_map {α γ δ ε:Type} (f:α→Option δ) (g:γ→Option δ) (x:α ⊕ γ) (h:δ→ε):(Sum.elim f g x).map h = Sum.elim (fun y=>(f y).map h) (fun y=>(g y).map h) x:=by cases x <;> rfl
def gIf {α:Type} (b:Bool) (x y:α):α:=if b = true then x else y
theorem gIf_eq {α:Type} (b:Bool) (x y:α):gIf b x y = if b = true then x else y:=rfl
theorem elim_stepR {S X α γ:Type} {enc:S→St} {out:X→Ex × St} (f:α→Option (S ⊕ X)) (g:γ→Option (S ⊕ X)) (x:α ⊕ γ):stepR enc out (Sum.elim f g x) = Sum.elim (fun y=>stepR enc out (f y)) (fun y=>stepR enc out (g y)) x:=by cases x <;> rfl
def finK (sf:SFunc):Ex→St→Option D
 | .normal,s=>finish sf s
 | .ret,s=>finish sf s
 | .exit _,_=>none
theorem call_eqK {T:Tbl} {f:Nat} {sf:SFunc} (hf:T f = some (.code sf)) (ds:List D) (hl:ds.length = sf.np) (hlt:lentAt 0 ds = none):Vm.call T f ds = evK T sf.body ⟨initFr 0 ds,[]⟩ (finK sf):=by
 rw [call_eq hf ds hl hlt]
 unfold evK
 cases Vm.ev T sf.body ⟨initFr 0 ds,[]⟩ with
 | none=>rfl
 | some q =>
  obtain ⟨e,s⟩:=q
  cases e <;> rfl
theorem bind_congr' {α β:Type} (o:Option α) {f g:α→Option β} (h:∀ x,f x = g x):o.bind f = o.bind g:=by rw [funext h]
end Vm
end Go.Proofs.Ytmekbfccmnjdcaa
set_option linter.unusedVariables false
set_option linter.unusedSimpArgs false
namespace Go.Proofs.Ytmekbfccmnjdcaa
namespace Vm
open Go.RowKit
section
variable {β:Type}
def getK (fr:List (Nat × V)) (t:Nat) (k:V→Option β):Option β:=k (lk fr .any t)
def blkK (bl:List (Nat × Option Blk)) (i:Nat) (k:Option Blk→Option β):Option β:=k (lk bl none i)
def opdK (fr:List (Nat × V)) (o:Opd) (k:V→Option β):Option β:=k (evo (lk fr .any) o)
theorem getK_hit (t:Nat) (v:V) (fr:List (Nat × V)) (k:V→Option β):getK ((t,v) :: fr) t k = k v:=by simp [getK,lk]
theorem getK_miss (a t:Nat) (v:V) (fr:List (Nat × V)) (k:V→Option β) (h:(t == a) = false):getK ((a,v) :: fr) t k = getK fr t k:=by
 have:¬ t = a:=by simpa using h
 simp [getK,lk,this]
theorem getK_nil (t:Nat) (k:V→Option β):getK [] t k = k .any:=rfl
theorem blkK_hit (t:Nat) (v:Option Blk) (fr:List (Nat × Option Blk)) (k:Option Blk→Option β):blkK ((t,v) :: fr) t k = k v:=by simp [blkK,lk]
theorem blkK_miss (a t:Nat) (v:Option Blk) (fr:List (Nat × Option Blk)) (k:Option Blk→Option β) (h:(t == a) = false):blkK ((a,v) :: fr) t k = blkK fr t k:=by
 have:¬ t = a:=by simpa using h
 simp [blkK,lk,this]
theorem blkK_nil (t:Nat) (k:Option Blk→Option β):blkK [] t k = k none:=rfl
theorem blkK_an (bl:List (Nat × Option Blk)) (t:Nat) (k:Option Blk→Option β):blkK ([] ++ bl) t k = blkK bl t k:=rfl
theorem blkK_ac (p:Nat × Option Blk) (w bl:List (Nat × Option Blk)) (t:Nat) (k:Option Blk→Option β):blkK ((p :: w) ++ bl) t k = blkK (p :: (w ++ bl)) t k:=rfl
theorem opdK_t (fr:List (Nat × V)) (t:Nat) (k:V→Option β):opdK fr (.t t) k = getK fr t k:=rfl
theorem opdK_c (fr:List (Nat × V)) (v:V) (k:V→Option β):opdK fr (.c v) k = k v:=rfl
def dcells (ds:List D):List V:=ds.map .d
def aggD (ds:List D):V:=.agg (dcells ds)
noncomputable def opK (T:Tbl) (d:Nat) (op:SOp) (fr:List (Nat × V)) (bl:List (Nat × Option Blk)) (k:V→Option β) (kw:V→List (Nat × Option Blk)→Option β):Option β :=
 match aop (call T) d (evo (lk fr .any)) (lk bl none) op with
 | none=>none
 | some (v,[])=>k v
 | some (v,p :: wr)=>kw v (p :: wr)
theorem opsF_cons {T:Tbl} (d st:Nat) (op:SOp) (l:List SOper) (fr:List (Nat × V)) (bl:List (Nat × Option Blk)) (k:St→Option β) :
  opsK T (⟨some d,op,none,st⟩ :: l) ⟨fr,bl⟩ k = opK T st op fr bl (fun v=>opsK T l ⟨(d,v) :: fr,bl⟩ k) (fun v wr=>opsK T l ⟨(d,v) :: fr,wr ++ bl⟩ k):=by
 rw [opsK_cons]
 unfold opK resK
 show (match aop (call T) st (evo (lk fr .any)) (lk bl none) op with | some (v,wr)=>_ | none=>none) = _
 cases aop (call T) st (evo (lk fr .any)) (lk bl none) op with
 | none=>rfl
 | some r=>obtain ⟨v,wr⟩:=r; cases wr <;> rfl
theorem opsF_cons0 {T:Tbl} (st:Nat) (op:SOp) (l:List SOper) (fr:List (Nat × V)) (bl:List (Nat × Option Blk)) (k:St→Option β) :
  opsK T (⟨none,op,none,st⟩ :: l) ⟨fr,bl⟩ k = opK T st op fr bl (fun _=>opsK T l ⟨fr,bl⟩ k) (fun _ wr=>opsK T l ⟨fr,wr ++ bl⟩ k):=by
 rw [opsK_cons]
 unfold opK resK
 show (match aop (call T) st (evo (lk fr .any)) (lk bl none) op with | some (v,wr)=>_ | none=>none) = _
 cases aop (call T) st (evo (lk fr .any)) (lk bl none) op with
 | none=>rfl
 | some r=>obtain ⟨v,wr⟩:=r; cases wr <;> rfl
def specP (t:Nat) (b:Bool) (op:SOp):SOp:=match op with
 | .pick (.t t') x y=>if t' = t then .move (if b then x else y) else op
 | op=>op
def specO (t:Nat) (b:Bool) (o:SOper):SOper:=match o.guard with
 | some (t',w)=>if t' = t then (if w = b then ⟨o.dst,specP t b o.op,none,o.site⟩ else ⟨o.dst,.move (.c (.tup [])),none,o.site⟩) else ⟨o.dst,specP t b o.op,some (t',w),o.site⟩
 | none=>⟨o.dst,specP t b o.op,none,o.site⟩
def specL (t:Nat) (b:Bool):List SOper→List SOper
 | []=>[]
 | o :: l=>specO t b o :: (if o.dst = some t then l else specL t b l)
theorem specP_aop {C:Nat→List D→Option D} {site:Nat} {fr:Nat→V} {bl:Nat→Option Blk} {t:Nat} {b:Bool} (h:fr t = .d (.bool b)) (op:SOp):aop C site (evo fr) bl (specP t b op) = aop C site (evo fr) bl op:=by
 cases op with
 | pick c x y =>
  cases c with
  | t t' =>
   simp only [specP]
   split
   ·rename_i e
    subst e
    simp only [aop,evo,h]
    cases b <;> rfl
   ·rfl
  | c v=>rfl
 | _=>rfl
theorem specO_run {C:Nat→List D→Option D} {s:St} {t:Nat} {b:Bool} (h:s.get t = .d (.bool b)) (o:SOper):runOp C (specO t b o) s = runOp C o s:=by
 obtain ⟨d,op,g,st⟩:=o
 cases g with
 | some g =>
  obtain ⟨t',w⟩:=g
  simp only [specO]
  split
  ·rename_i e
   subst e
   split
   ·rename_i e
    subst e
    simp only [runOp,SOper.wants,h,specP_aop h]
    cases w <;> rfl
   ·rename_i e
    simp only [runOp,SOper.wants,h,aop,evo]
    cases w <;> cases b <;> simp_all [wantG]
  ·simp only [runOp,SOper.wants,specP_aop h]
 | none=>simp only [specO,runOp,SOper.wants,specP_aop h]
theorem get_put_ne {s:St} {d:Option Nat} {v:V} {wr:List (Nat × Option Blk)} {t:Nat} (h:¬ d = some t):(s.put d v wr).get t = s.get t:=by
 cases d with
 | none=>rfl
 | some a =>
  show lk ((a,v) :: s.fr) .any t = lk s.fr .any t
  have:¬ t = a:=fun e=>h (by rw [e])
  simp [lk,this]
theorem runOp_get {C:Nat→List D→Option D} {o:SOper} {s s' : St} {t:Nat} (h:¬ o.dst = some t) (e:runOp C o s = some s'):s'.get t = s.get t:=by
 unfold runOp at e
 split at e
 ·split at e
  ·cases e; exact get_put_ne h
  ·cases e
 ·cases e; exact get_put_ne h
 ·cases e
theorem specL_run {C:Nat→List D→Option D} {t:Nat} {b:Bool}:∀ (l:List SOper) {s:St} (h:s.get t = .d (.bool b)),runOps C (specL t b l) s = runOps C l s
 | [],s,h=>rfl
 | o :: l,s,h=>by
  simp only [specL,runOps,specO_run h]
  cases e:runOp C o s with
  | none=>rfl
  | some s' =>
   simp only
   split
   ·rfl
   ·rename_i hd
    exact specL_run l (by rw [runOp_get hd e]; exact h)
noncomputable def guardL (T:Tbl) (v:V) (t:Nat) (l:List SOper) (s:St) (k:St→Option β):Option β:=match v with
 | .d (.bool b)=>if b = true then opsK T (specL t true l) s k else opsK T (specL t false l) s k
 | .tup []=>match l with
  | o :: r=>opsK T r (s.put o.dst (.tup []) []) k
  | []=>none
 | _=>none
theorem opsF_guard {T:Tbl} (d:Option Nat) (op:SOp) (t:Nat) (w:Bool) (st:Nat) (l:List SOper) (fr:List (Nat × V)) (bl:List (Nat × Option Blk)) (k:St→Option β) :
  opsK T (⟨d,op,some (t,w),st⟩ :: l) ⟨fr,bl⟩ k = getK fr t fun v=>guardL T v t (⟨d,op,some (t,w),st⟩ :: l) ⟨fr,bl⟩ k:=by
 show _ = guardL T (lk fr .any t) t _ _ k
 generalize hv:lk fr .any t = v
 have bad:∀ (q:wantG v w = .bad),opsK T (⟨d,op,some (t,w),st⟩ :: l) ⟨fr,bl⟩ k = none:=by
  intro q
  unfold opsK
  simp only [runOps,runOp,SOper.wants]
  rw [show (St.get ⟨fr,bl⟩ t) = v from hv,q]; rfl
 cases v with
 | d x =>
  cases x with
  | bool b =>
   simp only [guardL]
   cases b with
   | true=>rw [if_pos rfl]; unfold opsK; rw [specL_run (t:=t) (b:=true) (s:=⟨fr,bl⟩) _ hv]
   | false=>rw [if_neg (by decide)]; unfold opsK; rw [specL_run (t:=t) (b:=false) (s:=⟨fr,bl⟩) _ hv]
  | _=>exact bad rfl
 | tup vs =>
  cases vs with
  | nil =>
   simp only [guardL]
   unfold opsK
   simp only [runOps,runOp,SOper.wants]
   rw [show (St.get ⟨fr,bl⟩ t) = _ from hv]
   rfl
  | cons x l=>exact bad rfl
 | _=>exact bad rfl
theorem guardL_b {T:Tbl} (b:Bool) (t:Nat) (l:List SOper) (s:St) (k:St→Option β):guardL T (.d (.bool b)) t l s k = if b = true then opsK T (specL t true l) s k else opsK T (specL t false l) s k:=rfl
theorem guardL_u {T:Tbl} (t d st:Nat) (op:SOp) (g:Option (Nat × Bool)) (l:List SOper) (fr:List (Nat × V)) (bl:List (Nat × Option Blk)) (k:St→Option β):guardL T (.tup []) t (⟨some d,op,g,st⟩ :: l) ⟨fr,bl⟩ k = opsK T l ⟨(d,.tup []) :: fr,bl⟩ k:=rfl
theorem guardL_u0 {T:Tbl} (t st:Nat) (op:SOp) (g:Option (Nat × Bool)) (l:List SOper) (fr:List (Nat × V)) (bl:List (Nat × Option Blk)) (k:St→Option β):guardL T (.tup []) t (⟨none,op,g,st⟩ :: l) ⟨fr,bl⟩ k = opsK T l ⟨fr,bl⟩ k:=rfl
theorem opsK_congr {T:Tbl} {l l' : List SOper} {s:St} {k:St→Option β} (h:l = l'):opsK T l s k = opsK T l' s k:=by rw [h]
section
variable {T:Tbl} {d:Nat} {fr:List (Nat × V)} {bl:List (Nat × Option Blk)} {k:V→Option β} {kw:V→List (Nat × Option Blk)→Option β}
def ansK (r:Res) (k:V→Option β) (kw:V→List (Nat × Option Blk)→Option β):Option β:=match r with
 | none=>none
 | some (v,[])=>k v
 | some (v,p :: wr)=>kw v (p :: wr)
theorem ansK_v (o:Option D):ansK (Res.v o) k kw = o.bind fun x=>k (.d x):=by cases o <;> rfl
theorem opK_fail:opK T d .fail fr bl k kw = none:=rfl
theorem opK_move (x:Opd):opK T d (.move x) fr bl k kw = opdK fr x k:=rfl
theorem opK_pick (c a b:Opd):opK T d (.pick c a b) fr bl k kw = opdK fr c fun v=>condK v (opdK fr a k) (opdK fr b k):=by
 unfold opK opdK condK
 simp only [aop]
 generalize evo (lk fr .any) c = v
 cases v with
 | d x=>cases x with
  | bool b=>cases b <;> rfl
  | _=>rfl
 | _=>rfl
theorem condK_t (x y:Option β):condK (.d (.bool true)) x y = x:=rfl
theorem condK_f (x y:Option β):condK (.d (.bool false)) x y = y:=rfl
def noneK (b:Option Blk) (x:Option β):Option β:=match b with
 | none=>x
 | some _=>none
theorem noneK_n (x:Option β):noneK none x = x:=rfl
theorem noneK_s (b:Blk) (x:Option β):noneK (some b) x = none:=rfl
theorem opK_alloc (z:List V):opK T d (.alloc z) fr bl k kw = blkK bl d fun b=>noneK b (kw (.ptr d 0) [(d,some (.box z))]):=by
 unfold opK blkK noneK
 simp only [aop]
 cases lk bl none d <;> rfl
def cellsK (v:V) (k:List V→Option β):Option β:=if v.known = true then k v.cells else none
theorem cellsK_d (x:D) (k:List V→Option β):cellsK (.d x) k = k [.d x]:=rfl
theorem cellsK_nil (k:List V→Option β):cellsK .nil k = k [.nil]:=rfl
theorem cellsK_agg (cs:List V) (k:List V→Option β):cellsK (.agg cs) k = k cs:=rfl
theorem cellsK_aggD (ds:List D) (k:List V→Option β):cellsK (aggD ds) k = k (dcells ds):=rfl
theorem cellsK_ptr (i o:Nat) (k:List V→Option β):cellsK (.ptr i o) k = k [.ptr i o]:=rfl
theorem cellsK_own (i o:Nat) (k:List V→Option β):cellsK (.own i o) k = k [.own i o]:=rfl
theorem cellsK_orow (i v j o:Nat) (k:List V→Option β):cellsK (.orow i v j o) k = k [.orow i v j o]:=rfl
theorem cellsK_any (k:List V→Option β):cellsK .any k = none:=rfl
theorem opK_box (x:Opd):opK T d (.box x) fr bl k kw = blkK bl d fun b=>noneK b (opdK fr x fun v=>cellsK v fun cs=>kw (.ptr d 0) [(d,some (.box cs))]):=by
 unfold opK blkK noneK opdK cellsK
 simp only [aop]
 cases lk bl none d with
 | none =>
  simp only
  by_cases h:(evo (lk fr .any) x).known = true
  ·rw [if_pos h,if_pos h]
  ·rw [if_neg h,if_neg h]
 | some b=>rfl
def opdsK (fr:List (Nat × V)):List Opd→(List V→Option β)→Option β
 | [],k=>k []
 | x :: l,k=>opdK fr x fun v=>opdsK fr l fun vs=>k (v :: vs)
theorem opdsK_eq (l:List Opd) (k:List V→Option β):opdsK fr l k = k (l.map (evo (lk fr .any))):=by
 induction l generalizing k with
 | nil=>rfl
 | cons x l ih=>simp only [opdsK,opdK,ih,List.map_cons]
theorem opdsK_nil (k:List V→Option β):opdsK fr [] k = k []:=rfl
theorem opdsK_cons (x:Opd) (l:List Opd) (k:List V→Option β):opdsK fr (x :: l) k = opdK fr x fun v=>opdsK fr l fun vs=>k (v :: vs):=rfl
def partsK (fr:List (Nat × V)):List (Nat × Nat × Opd)→(List (Nat × Nat × V)→Option β)→Option β
 | [],k=>k []
 | (o,s,x) :: l,k=>opdK fr x fun v=>partsK fr l fun vs=>k ((o,s,v) :: vs)
theorem opK_ans (op:SOp):opK T d op fr bl k kw = ansK (aop (call T) d (evo (lk fr .any)) (lk bl none) op) k kw:=by
 unfold opK ansK
 cases aop (call T) d (evo (lk fr .any)) (lk bl none) op with
 | none=>rfl
 | some r=>obtain ⟨v,wr⟩:=r; cases wr <;> rfl
theorem ansK_resK (r:Res):ansK r k kw = resK r fun v wr=>match wr with | []=>k v | p :: w=>kw v (p :: w):=by
 cases r with
 | none=>rfl
 | some r=>obtain ⟨v,wr⟩:=r; cases wr <;> rfl
def vgetK:List V→Nat→(V→Option β)→Option β
 | [],_,_=>none
 | c :: _,0,k=>k c
 | _ :: cs,n + 1,k=>vgetK cs n k
theorem vgetK_eq (cs:List V) (n:Nat) (k:V→Option β):vgetK cs n k = cs[n]?.bind k:=by
 induction cs generalizing n with
 | nil=>rfl
 | cons c cs ih=>cases n with
  | zero=>rfl
  | succ n=>simp only [vgetK,ih,List.getElem?_cons_succ]
theorem vgetK_z (c:V) (cs:List V) (k:V→Option β):vgetK (c :: cs) 0 k = k c:=rfl
theorem vgetK_s (c:V) (cs:List V) (n:Nat) (k:V→Option β):vgetK (c :: cs) (n + 1) k = vgetK cs n k:=rfl
def dgetK (ds:List D) (n:Nat) (k:D→Option β):Option β:=ds[n]?.bind k
def dsubK (ds:List D) (off size:Nat) (k:List D→Option β):Option β:=if off + size ≤ ds.length then k ((ds.drop off).take size) else none
def vsubK (cs:List V) (off size:Nat) (k:List V→Option β):Option β:=if off + size ≤ cs.length then k ((cs.drop off).take size) else none
theorem vgetK_d (ds:List D) (n:Nat) (k:V→Option β):vgetK (dcells ds) n k = dgetK ds n fun x=>k (.d x):=by
 rw [vgetK_eq]
 unfold dcells dgetK
 rw [List.getElem?_map]
 cases ds[n]? <;> rfl
theorem vsubK_all (cs:List V) (n:Nat) (k:List V→Option β) (h:cs.length = n):vsubK cs 0 n k = k cs:=by
 subst h
 simp [vsubK]
theorem vsubK_drop (c:V) (cs:List V) (off n:Nat) (k:List V→Option β):vsubK (c :: cs) (off + 1) n k = vsubK cs off n k:=by
 unfold vsubK
 simp only [List.length_cons,List.drop_succ_cons]
 by_cases h:off + n ≤ cs.length
 ·rw [if_pos h,if_pos (by omega)]
 ·rw [if_neg h,if_neg (by omega)]
theorem vsubK_take (c:V) (cs:List V) (n:Nat) (k:List V→Option β):vsubK (c :: cs) 0 (n + 1) k = vsubK cs 0 n fun l=>k (c :: l):=by
 unfold vsubK
 simp only [List.length_cons,List.drop_zero,List.take_succ_cons]
 by_cases h:0 + n ≤ cs.length
 ·rw [if_pos h,if_pos (by omega)]
 ·rw [if_neg h,if_neg (by omega)]
theorem vsubK_zero (cs:List V) (k:List V→Option β):vsubK cs 0 0 k = k []:=by simp [vsubK]
theorem vsubK_d (ds:List D) (off n:Nat) (k:List V→Option β):vsubK (dcells ds) off n k = dsubK ds off n fun l=>k (dcells l):=by
 unfold vsubK dsubK dcells
 simp only [List.length_map,List.map_take,List.map_drop]
def loadBK (size:Nat) (isAgg:Bool) (off:Nat) (b:Option Blk) (k:V→Option β):Option β:=match b with
 | some (.box cs)=>if isAgg = true then vsubK cs off size fun l=>k (.agg l) else vgetK cs off k
 | some (.fbox row)=>if isAgg = true then dsubK row off size fun l=>k (aggD l) else dgetK row off fun x=>k (.d x)
 | _=>none
def loadOK (size:Nat) (isAgg:Bool) (ver i off:Nat) (b:Option Blk) (k:V→Option β):Option β:=match b with
 | some (.rows v e sz rows)=>if ver = v then rows[i]?.bind fun row=>(if isAgg = true then dsubK row off size fun l=>k (aggD l) else dgetK row off fun x=>k (.d x)) else none
 | _=>none
def loadK (size:Nat) (isAgg:Bool) (x:V) (bl:List (Nat × Option Blk)) (k:V→Option β):Option β:=match x with
 | .ptr id off=>blkK bl id fun b=>loadBK size isAgg off b k
 | .d (.ptr row off)=>if isAgg = true then dsubK row off size fun l=>k (aggD l) else dgetK row off fun x=>k (.d x)
 | .orow id ver i off=>blkK bl id fun b=>loadOK size isAgg ver i off b k
 | _=>none
theorem opK_load (size:Nat) (isAgg:Bool) (x:Opd):opK T d (.load size isAgg x) fr bl k kw = opdK fr x fun v=>loadK size isAgg v bl k:=by
 rw [opK_ans,aop_load]
 unfold opdK
 generalize evo (lk fr .any) x = v
 have hD:∀ row off,ansK (loadD size isAgg off row) k kw = if isAgg = true then dsubK row off size fun l=>k (aggD l) else dgetK row off fun x=>k (.d x):=by
  intro row off
  unfold loadD
  cases isAgg with
  | true=>simp only [if_true,dsubK]; split <;> rfl
  | false=>simp only [Bool.false_eq_true,if_false,dgetK]; cases row[off]? <;> rfl
 cases v with
 | ptr id off =>
  rw [loadR_ptr]
  simp only [loadK,blkK]
  generalize lk bl none id = b
  cases b with
  | none=>rfl
  | some b=>cases b with
   | box cs =>
    cases isAgg with
    | true=>simp only [loadB_a,loadBK,if_true,vsubK]; split <;> rfl
    | false=>simp only [loadB_c,loadBK,Bool.false_eq_true,if_false,vgetK_eq]; cases cs[off]? <;> rfl
   | fbox row=>exact hD row off
   | _=>rfl
 | d x=>cases x with
  | ptr row off=>exact hD row off
  | _=>rfl
 | orow id ver i off =>
  rw [loadR_o]
  simp only [loadK,blkK]
  generalize lk bl none id = b
  cases b with
  | none=>rfl
  | some b=>cases b with
   | rows v e sz rows =>
    simp only [loadO,loadOK]
    split
    ·cases rows[i]? with
     | none=>rfl
     | some row=>exact hD row off
    ·rfl
   | _=>rfl
 | _=>rfl
theorem loadK_ptr (size:Nat) (isAgg:Bool) (id off:Nat):loadK size isAgg (.ptr id off) bl k = blkK bl id fun b=>loadBK size isAgg off b k:=rfl
theorem loadK_dt (size:Nat) (row:List D) (off:Nat):loadK size true (.d (.ptr row off)) bl k = dsubK row off size fun l=>k (aggD l):=rfl
theorem loadK_df (size:Nat) (row:List D) (off:Nat):loadK size false (.d (.ptr row off)) bl k = dgetK row off fun x=>k (.d x):=rfl
theorem loadK_o (size:Nat) (isAgg:Bool) (id ver i off:Nat):loadK size isAgg (.orow id ver i off) bl k = blkK bl id fun b=>loadOK size isAgg ver i off b k:=rfl
theorem loadBK_ft (size off:Nat) (row:List D):loadBK size true off (some (.fbox row)) k = dsubK row off size fun l=>k (aggD l):=rfl
theorem loadBK_ff (size off:Nat) (row:List D):loadBK size false off (some (.fbox row)) k = dgetK row off fun x=>k (.d x):=rfl
theorem loadBK_c (size off:Nat) (cs:List V):loadBK size false off (some (.box cs)) k = vgetK cs off k:=rfl
theorem loadBK_a (size off:Nat) (c:V) (cs:List V):loadBK size true off (some (.box (c :: cs))) k = vsubK (c :: cs) off size fun l=>k (.agg l):=rfl
theorem loadBK_p (size off:Nat) (ds:List D):loadBK size true off (some (.box (dcells ds))) k = dsubK ds off size fun l=>k (aggD l):=by
 show vsubK (dcells ds) off size (fun l=>k (.agg l)) = _
 rw [vsubK_d]; rfl
theorem loadOK_rows {α:Type} (size:Nat) (isAgg:Bool) (v i off e sz:Nat) (c:α→List D) (xs:List α):loadOK size isAgg v i off (some (.rows v e sz (cM c xs))) k = xs[i]?.bind fun x=>loadK size isAgg (.d (.ptr (c x) off)) [] k:=by
 simp only [loadOK,if_true,cM,List.getElem?_map]
 cases xs[i]? <;> rfl
def vsetK:List V→Nat→V→(List V→Option β)→Option β
 | [],_,_,_=>none
 | _ :: cs,0,v,k=>k (v :: cs)
 | c :: cs,n + 1,v,k=>vsetK cs n v fun l=>k (c :: l)
theorem vsetK_eq (cs:List V) (n:Nat) (v:V) (k:List V→Option β):vsetK cs n v k = if n + 1 ≤ cs.length then k (setAt cs n [v]) else none:=by
 induction cs generalizing n k with
 | nil=>rfl
 | cons c cs ih=>cases n with
  | zero=>rw [if_pos (by simp)]; cases cs <;> rfl
  | succ n =>
   simp only [vsetK,ih,setAt,List.length_cons]
   by_cases h:n + 1 ≤ cs.length
   ·rw [if_pos h,if_pos (by omega)]
   ·rw [if_neg h,if_neg (by omega)]
theorem vsetK_z (c:V) (cs:List V) (v:V) (k:List V→Option β):vsetK (c :: cs) 0 v k = k (v :: cs):=rfl
theorem vsetK_s (c:V) (cs:List V) (n:Nat) (v:V) (k:List V→Option β):vsetK (c :: cs) (n + 1) v k = vsetK cs n v fun l=>k (c :: l):=rfl
def vsetsK (cs:List V) (off:Nat) (ws:List V) (k:List V→Option β):Option β:=if off + ws.length ≤ cs.length then k (setAt cs off ws) else none
theorem setAt_nil {α:Type} (l:List α) (n:Nat):setAt l n [] = l:=by cases l <;> rfl
theorem vsetsK_drop (c:V) (cs:List V) (off:Nat) (ws:List V) (k:List V→Option β) (hw:ws ≠ []):vsetsK (c :: cs) (off + 1) ws k = vsetsK cs off ws fun l=>k (c :: l):=by
 unfold vsetsK
 cases ws with
 | nil=>exact absurd rfl hw
 | cons w ws =>
  simp only [List.length_cons,setAt]
  by_cases h:off + (ws.length + 1) ≤ cs.length
  ·rw [if_pos h,if_pos (by omega)]
  ·rw [if_neg h,if_neg (by omega)]
theorem vsetsK_put (c:V) (cs:List V) (w:V) (ws:List V) (k:List V→Option β):vsetsK (c :: cs) 0 (w :: ws) k = vsetsK cs 0 ws fun l=>k (w :: l):=by
 unfold vsetsK
 simp only [List.length_cons,setAt]
 by_cases h:0 + ws.length ≤ cs.length
 ·rw [if_pos h,if_pos (by omega)]
 ·rw [if_neg h,if_neg (by omega)]
theorem vsetsK_nil (cs:List V) (k:List V→Option β):vsetsK cs 0 [] k = k cs:=by simp [vsetsK,setAt_nil]
def storeBK (size off id:Nat) (v:V) (b:Option Blk) (kw:V→List (Nat × Option Blk)→Option β):Option β:=match b with
 | some (.box cs)=>if v.cells.length = size ∧ off + size ≤ cs.length ∧ v.known = true then kw .any [(id,some (.box (setAt cs off v.cells)))] else none
 | _=>none
def storeOK (size ver i off id:Nat) (v:V) (bl:List (Nat × Option Blk)) (b:Option Blk) (kw:V→List (Nat × Option Blk)→Option β):Option β:=resK (storeO size ver i off id (fz2 (lk bl none) v) (mapM' (toD1 (lk bl none)) v.cells) b) kw
def storeK (size:Nat) (p v:V) (bl:List (Nat × Option Blk)) (kw:V→List (Nat × Option Blk)→Option β):Option β:=match p with
 | .ptr id off=>blkK bl id fun b=>storeBK size off id v b kw
 | .orow id ver i off=>blkK bl id fun b=>storeOK size ver i off id v bl b kw
 | _=>none
theorem opK_store (size:Nat) (x v:Opd):opK T d (.store size x v) fr bl k kw = opdK fr x fun p=>opdK fr v fun w=>storeK size p w bl kw:=by
 rw [opK_ans,aop_store]
 unfold opdK
 generalize evo (lk fr .any) x = p
 generalize evo (lk fr .any) v = w
 cases p with
 | ptr id off =>
  rw [storeR_p]
  simp only [storeK,blkK]
  generalize lk bl none id = b
  cases b with
  | none=>rfl
  | some b=>cases b with
   | box cs =>
    simp only [storeB_box,storeBK]
    by_cases h:w.cells.length = size ∧ off + size ≤ cs.length ∧ w.known = true
    ·rw [if_pos h,if_pos h]; rfl
    ·rw [if_neg h,if_neg h]; rfl
   | _=>rfl
 | orow id ver i off =>
  rw [storeR_o]
  simp only [storeK,blkK,storeOK]
  rw [ansK_resK]
  generalize lk bl none id = b
  cases b with
  | none=>rfl
  | some b=>cases b with
   | rows v e sz rows =>
    simp only [storeO]
    by_cases h:ver = v
    ·rw [if_pos h]
     cases rows[i]? with
     | none=>rfl
     | some row =>
      cases mapM' (toD1 (lk bl none)) w.cells with
      | none=>rfl
      | some ds =>
       simp only
       split <;> rfl
    ·rw [if_neg h]; rfl
   | _=>rfl
 | _=>rfl
theorem storeK_p (size id off:Nat) (v:V):storeK size (.ptr id off) v bl kw = blkK bl id fun b=>storeBK size off id v b kw:=rfl
theorem storeK_o (size id ver i off:Nat) (v:V):storeK size (.orow id ver i off) v bl kw = blkK bl id fun b=>storeOK size ver i off id v bl b kw:=rfl
theorem storeBK_1 (off id:Nat) (w c:V) (cs:List V) (hw:w.one = true) (hk:w.known = true):storeBK 1 off id w (some (.box (c :: cs))) kw = vsetK (c :: cs) off w fun l=>kw .any [(id,some (.box l))]:=by
 have hc:w.cells = [w]:=by cases w <;> first | rfl | cases hw
 rw [vsetK_eq]
 simp only [storeBK,hc,hk]
 by_cases h:off + 1 ≤ (c :: cs).length
 ·rw [if_pos h,if_pos ⟨rfl,h,trivial⟩]
 ·rw [if_neg h,if_neg (fun q=>h q.2.1)]
theorem storeBK_d (off id:Nat) (x:D) (c:V) (cs:List V):storeBK 1 off id (.d x) (some (.box (c :: cs))) kw = vsetK (c :: cs) off (.d x) fun l=>kw .any [(id,some (.box l))]:=storeBK_1 off id _ c cs rfl rfl
theorem storeBK_nil (off id:Nat) (c:V) (cs:List V):storeBK 1 off id .nil (some (.box (c :: cs))) kw = vsetK (c :: cs) off .nil fun l=>kw .any [(id,some (.box l))]:=storeBK_1 off id _ c cs rfl rfl
theorem storeBK_own (off id i v:Nat) (c:V) (cs:List V):storeBK 1 off id (.own i v) (some (.box (c :: cs))) kw = vsetK (c :: cs) off (.own i v) fun l=>kw .any [(id,some (.box l))]:=storeBK_1 off id _ c cs rfl rfl
theorem storeBK_ptr (off id i v:Nat) (c:V) (cs:List V):storeBK 1 off id (.ptr i v) (some (.box (c :: cs))) kw = vsetK (c :: cs) off (.ptr i v) fun l=>kw .any [(id,some (.box l))]:=storeBK_1 off id _ c cs rfl rfl
def lenIs (cs:List V) (n:Nat) (x:Option β):Option β:=if cs.length = n then x else none
theorem lenIs_z (x:Option β):lenIs [] 0 x = x:=rfl
theorem lenIs_s (c:V) (cs:List V) (n:Nat) (x:Option β):lenIs (c :: cs) (n + 1) x = lenIs cs n x:=by
 unfold lenIs
 simp only [List.length_cons]
 by_cases h:cs.length = n
 ·rw [if_pos h,if_pos (by omega)]
 ·rw [if_neg h,if_neg (by omega)]
theorem storeBK_agg (size off id:Nat) (ws:List V) (c:V) (cs:List V):storeBK size off id (.agg ws) (some (.box (c :: cs))) kw = lenIs ws size (vsetsK (c :: cs) off ws fun l=>kw .any [(id,some (.box l))]):=by
 unfold lenIs vsetsK
 show (if ws.length = size ∧ off + size ≤ (c :: cs).length ∧ V.known (.agg ws) = true then kw .any [(id,some (.box (setAt (c :: cs) off ws)))] else none) = _
 by_cases h:ws.length = size
 ·subst h
  rw [if_pos rfl]
  by_cases h:off + ws.length ≤ (c :: cs).length
  ·rw [if_pos h,if_pos ⟨rfl,h,rfl⟩]
  ·rw [if_neg h,if_neg (fun q=>h q.2.1)]
 ·rw [if_neg h,if_neg (fun q=>h q.1)]
theorem setAt_all {α:Type}:∀ (l m:List α),l.length = m.length→setAt l 0 m = m
 | [],[],_=>rfl
 | _ :: l,x :: m,h=>by
  simp only [setAt]
  rw [setAt_all l m (by simpa using h)]
 | [],_ :: _,h=>by simp at h
 | _ :: _,[],h=>by simp at h
theorem storeBK_packed (n id:Nat) (ds:List D) (hd:ds.length = n) (cs:List V) (hc:cs.length = n):storeBK n 0 id (aggD ds) (some (.box cs)) kw = kw .any [(id,some (.box (dcells ds)))]:=by
 have e:(dcells ds).length = n:=by rw [← hd]; simp [dcells]
 show (if (dcells ds).length = n ∧ 0 + n ≤ cs.length ∧ V.known (aggD ds) = true then kw .any [(id,some (.box (setAt cs 0 (dcells ds))))] else none) = _
 rw [if_pos ⟨e,by omega,rfl⟩,setAt_all _ _ (by rw [hc,e])]
def nilK (v:V) (bl:List (Nat × Option Blk)) (k:V→Option β):Option β:=match v with
 | .ptr id off=>k (.ptr id off)
 | .d (.ptr row off)=>k (.d (.ptr row off))
 | .orow id ver i off=>blkK bl id fun b=>match b with
  | some (.rows v _ _ _)=>if ver = v then k (.orow id ver i off) else none
  | _=>none
 | _=>none
theorem opK_nilCheck (x:Opd):opK T d (.nilCheck x) fr bl k kw = opdK fr x fun v=>nilK v bl k:=by
 unfold opK opdK
 simp only [aop]
 generalize evo (lk fr .any) x = v
 cases v with
 | d x=>cases x <;> rfl
 | orow id ver i off =>
  simp only [nilK,blkK]
  generalize lk bl none id = b
  cases b with
  | none=>rfl
  | some b=>cases b with
   | rows v e s rows=>simp only; by_cases h:ver = v <;> simp [h]
   | _=>rfl
 | _=>rfl
theorem nilK_p (id off:Nat):nilK (.ptr id off) bl k = k (.ptr id off):=rfl
theorem nilK_d (row:List D) (off:Nat):nilK (.d (.ptr row off)) bl k = k (.d (.ptr row off)):=rfl
def orowK (id ver i off:Nat) (b:Option Blk) (k:V→Option β):Option β:=match b with
 | some (.rows v _ _ _)=>if ver = v then k (.orow id ver i off) else none
 | _=>none
theorem nilK_o (id ver i off:Nat):nilK (.orow id ver i off) bl k = blkK bl id fun b=>orowK id ver i off b k:=rfl
theorem orowK_r (id ver i off e s:Nat) (rows:List (List D)):orowK id ver i off (some (.rows ver e s rows)) k = k (.orow id ver i off):=if_pos rfl
def faK (off:Nat) (v:V) (bl:List (Nat × Option Blk)) (k:V→Option β):Option β:=match v with
 | .ptr id o=>k (.ptr id (o + off))
 | .d (.ptr row o)=>k (.d (.ptr row (o + off)))
 | .orow id ver i o=>blkK bl id fun b=>orowK id ver i (o + off) b k
 | _=>none
theorem opK_fieldAddr (off:Nat) (x:Opd):opK T d (.fieldAddr off x) fr bl k kw = opdK fr x fun v=>faK off v bl k:=by
 unfold opK opdK
 simp only [aop]
 generalize evo (lk fr .any) x = v
 cases v with
 | d x=>cases x <;> rfl
 | orow id ver i o =>
  simp only [faK,blkK]
  generalize lk bl none id = b
  cases b with
  | none=>rfl
  | some b=>cases b with
   | rows v e s rows=>simp only [orowK]; by_cases h:ver = v <;> simp [h]
   | _=>rfl
 | _=>rfl
theorem faK_p (off id o:Nat):faK off (.ptr id o) bl k = k (.ptr id (o + off)):=rfl
theorem faK_d (off:Nat) (row:List D) (o:Nat):faK off (.d (.ptr row o)) bl k = k (.d (.ptr row (o + off))):=rfl
theorem faK_o (off id ver i o:Nat):faK off (.orow id ver i o) bl k = blkK bl id fun b=>orowK id ver i (o + off) b k:=rfl
def binK (c:Nat) (op:BinOp) (a b:V) (k:V→Option β):Option β:=(binV c op a b).bind fun x=>k (.d x)
theorem opK_bin (c:Nat) (op:BinOp) (x y:Opd):opK T d (.bin c op x y) fr bl k kw = opdK fr x fun a=>opdK fr y fun b=>binK c op a b k:=by
 rw [opK_ans]
 exact ansK_v _
section
variable (kd:IntKind) (x y:Int)
theorem binK_add:binK 0 .add (.d (.int kd x)) (.d (.int kd y)) k = k (.d (.int kd (IntKind.wrap kd (x + y)))):=by simp [binK,binV,intBin]
theorem binK_sub:binK 0 .sub (.d (.int kd x)) (.d (.int kd y)) k = k (.d (.int kd (IntKind.wrap kd (x - y)))):=by simp [binK,binV,intBin]
theorem binK_mul:binK 0 .mul (.d (.int kd x)) (.d (.int kd y)) k = k (.d (.int kd (IntKind.wrap kd (x * y)))):=by simp [binK,binV,intBin]
theorem binK_quo:binK 0 .quo (.d (.int kd x)) (.d (.int kd y)) k = if y = 0 then none else k (.d (.int kd (IntKind.wrap kd (x.tdiv y)))):=by
 simp only [binK,binV,intBin,if_true]; split <;> rfl
theorem binK_rem:binK 0 .rem (.d (.int kd x)) (.d (.int kd y)) k = if y = 0 then none else k (.d (.int kd (x.tmod y))):=by
 simp only [binK,binV,intBin,if_true]; split <;> rfl
theorem binK_eql:binK 0 .eql (.d (.int kd x)) (.d (.int kd y)) k = k (.d (.bool (x == y))):=by simp [binK,binV,intBin]
theorem binK_neq:binK 0 .neq (.d (.int kd x)) (.d (.int kd y)) k = k (.d (.bool (x != y))):=by simp [binK,binV,intBin]
theorem binK_lss:binK 0 .lss (.d (.int kd x)) (.d (.int kd y)) k = k (.d (.bool (decide (x < y)))):=by simp [binK,binV,intBin]
theorem binK_leq:binK 0 .leq (.d (.int kd x)) (.d (.int kd y)) k = k (.d (.bool (decide (x ≤ y)))):=by simp [binK,binV,intBin]
theorem binK_gtr:binK 0 .gtr (.d (.int kd x)) (.d (.int kd y)) k = k (.d (.bool (decide (x > y)))):=by simp [binK,binV,intBin]
theorem binK_geq:binK 0 .geq (.d (.int kd x)) (.d (.int kd y)) k = k (.d (.bool (decide (x ≥ y)))):=by simp [binK,binV,intBin]
theorem binK_and:binK 0 .and (.d (.int kd x)) (.d (.int kd y)) k = k (.d (.int kd (IntKind.wrap kd (BitVec.ofInt (IntKind.bits kd) x &&& BitVec.ofInt (IntKind.bits kd) y).toNat))):=by simp [binK,binV,intBin]
theorem binK_or:binK 0 .or (.d (.int kd x)) (.d (.int kd y)) k = k (.d (.int kd (IntKind.wrap kd (BitVec.ofInt (IntKind.bits kd) x ||| BitVec.ofInt (IntKind.bits kd) y).toNat))):=by simp [binK,binV,intBin]
theorem binK_xor:binK 0 .xor (.d (.int kd x)) (.d (.int kd y)) k = k (.d (.int kd (IntKind.wrap kd (BitVec.ofInt (IntKind.bits kd) x ^^^ BitVec.ofInt (IntKind.bits kd) y).toNat))):=by simp [binK,binV,intBin]
end
section
variable (x y:ByteArray)
theorem binK_seql:binK 0 .eql (.d (.str x)) (.d (.str y)) k = k (.d (.bool (x.toList == y.toList))):=rfl
theorem binK_sneq:binK 0 .neq (.d (.str x)) (.d (.str y)) k = k (.d (.bool !(x.toList == y.toList))):=rfl
theorem binK_slss:binK 0 .lss (.d (.str x)) (.d (.str y)) k = k (.d (.bool (Op.bytesLess x.toList y.toList))):=rfl
theorem binK_sleq:binK 0 .leq (.d (.str x)) (.d (.str y)) k = k (.d (.bool (Op.bytesLess x.toList y.toList || x.toList == y.toList))):=rfl
theorem binK_sgtr:binK 0 .gtr (.d (.str x)) (.d (.str y)) k = k (.d (.bool !(Op.bytesLess x.toList y.toList || x.toList == y.toList))):=rfl
theorem binK_sgeq:binK 0 .geq (.d (.str x)) (.d (.str y)) k = k (.d (.bool !(Op.bytesLess x.toList y.toList))):=rfl
end
theorem binK_beql (x y:Bool):binK 1 .eql (.d (.bool x)) (.d (.bool y)) k = k (.d (.bool (x == y))):=rfl
theorem binK_bneq (x y:Bool):binK 1 .neq (.d (.bool x)) (.d (.bool y)) k = k (.d (.bool !(x == y))):=rfl
def valK (o:Option D) (k:V→Option β):Option β:=o.bind fun x=>k (.d x)
theorem valK_congr {o o' : Option D} {k:V→Option β} (h:o = o'):valK o k = valK o' k:=by rw [h]
theorem valK_some (x:D):valK (some x) k = k (.d x):=rfl
theorem valK_none:valK none k = none:=rfl
theorem opK_eqS (ks:List Nat) (neg:Bool) (x y:Opd):opK T d (.eqS ks neg x y) fr bl k kw = opdK fr x fun a=>opdK fr y fun b=>valK (eqV ks neg a b) k:=by
 rw [opK_ans]
 exact ansK_v _
def eqCK:List Nat→List V→List V→(Bool→Option β)→Option β:=fun ks xs ys k=>match eqCells ks xs ys with
 | some b=>k b
 | none=>none
def eqSK (ks:List Nat) (neg:Bool) (a b:V) (k:V→Option β):Option β:=match a,b with
 | .agg xs,.agg ys=>eqCK ks xs ys fun b=>k (.d (.bool (if neg then !b else b)))
 | _,_=>none
theorem opF_eqS (ks:List Nat) (neg:Bool) (x y:Opd):opK T d (.eqS ks neg x y) fr bl k kw = opdK fr x fun a=>opdK fr y fun b=>eqSK ks neg a b k:=by
 rw [opK_eqS]
 unfold opdK
 generalize evo (lk fr .any) x = a
 generalize evo (lk fr .any) y = b
 cases a with
 | agg xs=>cases b with
  | agg ys =>
   simp only [eqV,eqSK,eqCK,valK]
   cases eqCells ks xs ys <;> rfl
  | _=>rfl
 | _=>cases b <;> rfl
section
variable {k:V→Option β}
theorem eqSK_aat (ks:List Nat) (xs ys:List V):eqSK ks true (.agg xs) (.agg ys) k = eqCK ks xs ys fun b=>k (.d (.bool !b)):=rfl
theorem eqSK_aaf (ks:List Nat) (xs ys:List V):eqSK ks false (.agg xs) (.agg ys) k = eqCK ks xs ys fun b=>k (.d (.bool b)):=rfl
theorem eqSK_pat (ks:List Nat) (xs:List D) (ys:List V):eqSK ks true (aggD xs) (.agg ys) k = eqCK ks (dcells xs) ys fun b=>k (.d (.bool !b)):=rfl
theorem eqSK_paf (ks:List Nat) (xs:List D) (ys:List V):eqSK ks false (aggD xs) (.agg ys) k = eqCK ks (dcells xs) ys fun b=>k (.d (.bool b)):=rfl
theorem eqSK_apt (ks:List Nat) (xs:List V) (ys:List D):eqSK ks true (.agg xs) (aggD ys) k = eqCK ks xs (dcells ys) fun b=>k (.d (.bool !b)):=rfl
theorem eqSK_apf (ks:List Nat) (xs:List V) (ys:List D):eqSK ks false (.agg xs) (aggD ys) k = eqCK ks xs (dcells ys) fun b=>k (.d (.bool b)):=rfl
theorem eqSK_ppt (ks:List Nat) (xs ys:List D):eqSK ks true (aggD xs) (aggD ys) k = eqCK ks (dcells xs) (dcells ys) fun b=>k (.d (.bool !b)):=rfl
theorem eqSK_ppf (ks:List Nat) (xs ys:List D):eqSK ks false (aggD xs) (aggD ys) k = eqCK ks (dcells xs) (dcells ys) fun b=>k (.d (.bool b)):=rfl
end
section
variable {k:Bool→Option β}
theorem eqCK_i1 (kd:IntKind) (x y:Int):eqCK [0] [.d (.int kd x)] [.d (.int kd y)] k = k (x == y):=by simp [eqCK,eqCells,eqCell]
theorem eqCK_b1 (x y:Bool):eqCK [1] [.d (.bool x)] [.d (.bool y)] k = k (x == y):=by simp [eqCK,eqCells,eqCell]
theorem eqCK_s1 (x y:ByteArray):eqCK [2] [.d (.str x)] [.d (.str y)] k = k (x == y):=by simp [eqCK,eqCells,eqCell]
theorem eqCK_i (kd:IntKind) (x y:Int) (c:Nat) (ks:List Nat) (xs ys:List V):eqCK (0 :: c :: ks) (.d (.int kd x) :: xs) (.d (.int kd y) :: ys) k = eqCK (c :: ks) xs ys fun b=>k ((x == y) && b):=by
 simp only [eqCK,eqCells,eqCell,if_true]
 cases eqCells (c :: ks) xs ys <;> rfl
theorem eqCK_b (x y:Bool) (c:Nat) (ks:List Nat) (xs ys:List V):eqCK (1 :: c :: ks) (.d (.bool x) :: xs) (.d (.bool y) :: ys) k = eqCK (c :: ks) xs ys fun b=>k ((x == y) && b):=by
 simp only [eqCK,eqCells,eqCell]
 cases eqCells (c :: ks) xs ys <;> rfl
theorem eqCK_s (x y:ByteArray) (c:Nat) (ks:List Nat) (xs ys:List V):eqCK (2 :: c :: ks) (.d (.str x) :: xs) (.d (.str y) :: ys) k = eqCK (c :: ks) xs ys fun b=>k ((x == y) && b):=by
 simp only [eqCK,eqCells,eqCell]
 cases eqCells (c :: ks) xs ys <;> rfl
end
def maxK (kd:IntKind) (x:Int):List V→(V→Option β)→Option β:=fun l k=>valK (maxg kd x l) k
def minK (kd:IntKind) (x:Int):List V→(V→Option β)→Option β:=fun l k=>valK (ming kd x l) k
def maxlK (l:List V) (k:V→Option β):Option β:=valK (maxl l) k
def minlK (l:List V) (k:V→Option β):Option β:=valK (minl l) k
theorem opK_max (l:List Opd):opK T d (.max l) fr bl k kw = opdsK fr l fun vs=>maxlK vs k:=by
 rw [opK_ans,opdsK_eq]
 exact ansK_v _
theorem opK_min (l:List Opd):opK T d (.min l) fr bl k kw = opdsK fr l fun vs=>minlK vs k:=by
 rw [opK_ans,opdsK_eq]
 exact ansK_v _
section
variable {k:V→Option β}
theorem maxlK_i (kd:IntKind) (x:Int) (l:List V):maxlK (.d (.int kd x) :: l) k = maxK kd x l k:=rfl
theorem minlK_i (kd:IntKind) (x:Int) (l:List V):minlK (.d (.int kd x) :: l) k = minK kd x l k:=rfl
theorem maxK_nil (kd:IntKind) (x:Int):maxK kd x [] k = k (.d (.int kd x)):=rfl
theorem minK_nil (kd:IntKind) (x:Int):minK kd x [] k = k (.d (.int kd x)):=rfl
theorem maxK_cons (kd:IntKind) (x y:Int) (l:List V):maxK kd x (.d (.int kd y) :: l) k = maxK kd (if y > x then y else x) l k:=by simp [maxK,maxg]
theorem minK_cons (kd:IntKind) (x y:Int) (l:List V):minK kd x (.d (.int kd y) :: l) k = minK kd (if y < x then y else x) l k:=by simp [minK,ming]
end
def unK (op:UnOp) (v:V) (k:V→Option β):Option β:=valK (unV op v) k
theorem opK_un (op:UnOp) (x:Opd):opK T d (.un op x) fr bl k kw = opdK fr x fun a=>unK op a k:=by
 rw [opK_ans]
 exact ansK_v _
theorem unK_not (b:Bool):unK .not (.d (.bool b)) k = k (.d (.bool !b)):=rfl
theorem unK_neg (kd:IntKind) (n:Int):unK .neg (.d (.int kd n)) k = k (.d (.int kd (IntKind.wrap kd (0 - n)))):=rfl
def convK (kd:IntKind) (v:V) (k:V→Option β):Option β:=match v with
 | .d (.int _ n)=>k (.d (.int kd (IntKind.wrap kd n)))
 | _=>none
theorem opK_conv (kd:IntKind) (x:Opd):opK T d (.conv kd x) fr bl k kw = opdK fr x fun a=>convK kd a k:=by
 unfold opK opdK
 simp only [aop]
 generalize evo (lk fr .any) x = v
 cases v with
 | d x=>cases x <;> rfl
 | _=>rfl
theorem convK_i (kd kd' : IntKind) (n:Int):convK kd (.d (.int kd' n)) k = k (.d (.int kd (IntKind.wrap kd n))):=rfl
def bytesL (s:ByteArray):List Int:=s.data.toList.map fun b=>(b.toNat:Int)
def bytesK (v:V) (k:V→Option β):Option β:=match v with
 | .d (.str s)=>k (.d (.sl (cM (cK .u8) (bytesL s))))
 | _=>none
theorem opK_bytes (x:Opd):opK T d (.bytes x) fr bl k kw = opdK fr x fun a=>bytesK a k:=by
 unfold opK opdK
 simp only [aop]
 generalize evo (lk fr .any) x = v
 cases v with
 | d x=>cases x with
  | str s =>
   have:(s.data.toList.map fun b=>[D.int .u8 (b.toNat:Int)]) = cM (cK .u8) (bytesL s):=by
    simp only [cM,bytesL,List.map_map]
    rfl
   simp only [bytesK,this]
  | _=>rfl
 | _=>rfl
theorem bytesK_s (s:ByteArray):bytesK (.d (.str s)) k = k (.d (.sl (cM (cK .u8) (bytesL s)))):=rfl
def rowsK (v:V) (bl:List (Nat × Option Blk)) (k:List (List D)→Option β):Option β:=(rowsOf (lk bl none) v).bind k
def rowsBK (ver:Nat) (b:Option Blk) (k:List (List D)→Option β):Option β:=(rowsB ver b).bind k
theorem rowsK_sl (rows:List (List D)) (k:List (List D)→Option β):rowsK (.d (.sl rows)) bl k = k rows:=rfl
theorem rowsK_nil (k:List (List D)→Option β):rowsK .nil bl k = k []:=rfl
theorem rowsK_own (id ver:Nat) (k:List (List D)→Option β):rowsK (.own id ver) bl k = blkK bl id fun b=>rowsBK ver b k:=by
 unfold rowsK blkK rowsBK
 simp only [rowsOf]
 generalize lk bl none id = b
 cases b with
 | none=>rfl
 | some b=>cases b <;> rfl
theorem rowsBK_rows (v e s:Nat) (rows:List (List D)) (k:List (List D)→Option β):rowsBK v (some (.rows v e s rows)) k = k rows:=by simp [rowsBK,rowsB]
theorem rowsBK_froz (v:Nat) (rows:List (List D)) (k:List (List D)→Option β):rowsBK v (some (.froz v rows)) k = k rows:=by simp [rowsBK,rowsB]
theorem opK_len (x:Opd):opK T d (.len x) fr bl k kw = opdK fr x fun a=>rowsK a bl fun rows=>k (.d (.int .i64 rows.length)):=by
 unfold opK opdK rowsK
 simp only [aop]
 cases rowsOf (lk bl none) (evo (lk fr .any) x) <;> rfl
def lenSK (v:V) (k:V→Option β):Option β:=match v with
 | .d (.str s)=>k (.d (.int .i64 s.size))
 | _=>none
theorem opK_lenS (x:Opd):opK T d (.lenS x) fr bl k kw = opdK fr x fun a=>lenSK a k:=by
 unfold opK opdK
 simp only [aop]
 generalize evo (lk fr .any) x = v
 cases v with
 | d x=>cases x <;> rfl
 | _=>rfl
theorem lenSK_s (s:ByteArray):lenSK (.d (.str s)) k = k (.d (.int .i64 s.size)):=rfl
def fieldK (off size:Nat) (isAgg:Bool) (v:V) (k:V→Option β):Option β:=match v with
 | .agg cs=>if isAgg = true then vsubK cs off size fun l=>k (.agg l) else vgetK cs off k
 | _=>none
theorem opK_field (off size:Nat) (isAgg:Bool) (x:Opd):opK T d (.field off size isAgg x) fr bl k kw = opdK fr x fun v=>fieldK off size isAgg v k:=by
 unfold opK opdK
 simp only [aop]
 generalize evo (lk fr .any) x = v
 cases v with
 | agg cs =>
  cases isAgg with
  | true =>
   simp only [fieldK,vsubK,if_true]
   by_cases h:off + size ≤ cs.length
   ·rw [if_pos h,if_pos h]
   ·rw [if_neg h,if_neg h]
  | false=>simp only [fieldK,vgetK_eq,Bool.false_eq_true,if_false]; cases cs[off]? <;> rfl
 | _=>rfl
theorem fieldK_c (off size:Nat) (cs:List V):fieldK off size false (.agg cs) k = vgetK cs off k:=rfl
theorem fieldK_a (off size:Nat) (cs:List V):fieldK off size true (.agg cs) k = vsubK cs off size fun l=>k (.agg l):=rfl
theorem fieldK_pc (off size:Nat) (ds:List D):fieldK off size false (aggD ds) k = dgetK ds off fun x=>k (.d x):=by
 show vgetK (dcells ds) off k = _
 rw [vgetK_d]
theorem fieldK_pa (off size:Nat) (ds:List D):fieldK off size true (aggD ds) k = dsubK ds off size fun l=>k (aggD l):=by
 show vsubK (dcells ds) off size (fun l=>k (.agg l)) = _
 rw [vsubK_d]; rfl
def sizeK (ds:List D) (n:Nat) (x:Option β):Option β:=if ds.length = n then x else none
def idxK (size:Nat) (x i:V) (bl:List (Nat × Option Blk)) (k:V→Option β):Option β:=ansK (idxR size x i (lk bl none)) k fun _ _=>none
theorem idxR_pure {size:Nat} {x i:V} {b:Nat→Option Blk} {kw' : V→List (Nat × Option Blk)→Option β}:ansK (idxR size x i b) k kw = ansK (idxR size x i b) k kw':=by
 have:∀ r,idxR size x i b = some r→r.2 = []:=by
  intro r
  unfold idxR
  intro e
  repeat' split at e
  all_goals first | cases e; rfl | cases e
 cases h:idxR size x i b with
 | none=>rfl
 | some r=>obtain ⟨v,wr⟩:=r; have:=this _ h; dsimp only at this; subst this; rfl
theorem opK_indexAddr (size:Nat) (x i:Opd):opK T d (.indexAddr size x i) fr bl k kw = opdK fr x fun a=>opdK fr i fun b=>idxK size a b bl k:=by
 rw [opK_ans,aop_indexAddr]
 unfold opdK idxK
 exact idxR_pure
theorem idxK_sl {α:Type} (size:Nat) (c:α→List D) (xs:List α) (kd:IntKind) (n:Int):idxK size (.d (.sl (cM c xs))) (.d (.int kd n)) bl k = (at? xs n).bind fun x=>sizeK (c x) size (k (.d (.ptr (c x) 0))):=by
 unfold idxK
 rw [ansK_resK,idxR_sl]
 rfl
def idxBK (size id ver:Nat) (n:Int) (b:Option Blk) (k:V→Option β):Option β:=ansK (idxB size id ver n b) k fun _ _=>none
theorem idxK_own (size id ver:Nat) (kd:IntKind) (n:Int):idxK size (.own id ver) (.d (.int kd n)) bl k = blkK bl id fun b=>idxBK size id ver n b k:=rfl
theorem idxBK_rows {α:Type} (size id v e:Nat) (n:Int) (c:α→List D) (xs:List α):idxBK size id v n (some (.rows v e size (cM c xs))) k = if 0 ≤ n ∧ n.toNat < xs.length then k (.orow id v n.toNat 0) else none:=by
 unfold idxBK
 rw [ansK_resK,idxB_rows,if_pos rfl,if_pos rfl,cM_length]
theorem idxBK_froz {α:Type} (size id v:Nat) (n:Int) (c:α→List D) (xs:List α):idxBK size id v n (some (.froz v (cM c xs))) k = (at? xs n).bind fun x=>sizeK (c x) size (k (.d (.ptr (c x) 0))):=by
 unfold idxBK
 rw [ansK_resK,idxB_froz,if_pos rfl]
 rfl
def idxSK (x i:V) (k:V→Option β):Option β:=resK (indexR x i) fun v _=>k v
theorem opK_index (x i:Opd):opK T d (.index x i) fr bl k kw = opdK fr x fun a=>opdK fr i fun b=>idxSK a b k:=by
 rw [opK_ans,aop_index]
 unfold opdK idxSK
 generalize evo (lk fr .any) x = a
 generalize evo (lk fr .any) i = b
 have:∀ r,indexR a b = some r→r.2 = []:=by
  intro r
  unfold indexR
  intro e
  repeat' split at e
  all_goals first | cases e; rfl | cases e
 show _ = resK (indexR a b) fun v _=>k v
 cases h:indexR a b with
 | none=>rfl
 | some r=>obtain ⟨v,wr⟩:=r; have:=this _ h; dsimp only at this; subst this; rfl
theorem idxSK_s (s:ByteArray) (kd:IntKind) (n:Int):idxSK (.d (.str s)) (.d (.int kd n)) k = (sAt s n).bind fun b=>k (.d (.int .u8 b)):=by
 unfold idxSK
 rw [indexR_s]
def optK (fr:List (Nat × V)) (o:Option Opd) (k:Option V→Option β):Option β:=match o with
 | none=>k none
 | some x=>opdK fr x fun v=>k (some v)
theorem optK_n (k:Option V→Option β):optK fr none k = k none:=rfl
theorem optK_s (x:Opd) (k:Option V→Option β):optK fr (some x) k = opdK fr x fun v=>k (some v):=rfl
def sliceK (size:Nat) (x:V) (lo hi:Option V) (bl:List (Nat × Option Blk)) (k:V→Option β) (kw:V→List (Nat × Option Blk)→Option β):Option β:=ansK (sliceV (lk bl none) size x lo hi) k kw
theorem opK_slice (size:Nat) (x:Opd) (lo hi:Option Opd):opK T d (.slice size x lo hi) fr bl k kw = opdK fr x fun a=>optK fr lo fun l=>optK fr hi fun h=>sliceK size a l h bl k kw:=by
 rw [opK_ans,aop_slice]
 cases lo <;> cases hi <;> rfl
section
variable {α:Type} (size:Nat) (c:α→List D) (xs:List α) (hs:sized size (cM c xs) = true)
include hs
theorem sliceK_sl {lo hi:Option V} {l h:Int} (hl:sliceI lo 0 = some l) (hh:sliceI hi (xs.length:Int) = some h):sliceK size (.d (.sl (cM c xs))) lo hi bl k kw = if sliceOk xs.length l h then k (.d (.sl (cM c (sliceL xs l h)))) else none:=by
 unfold sliceK
 rw [ansK_resK,sliceV_sl _ size c xs lo hi l h hl hh hs]
theorem sliceK_nn:sliceK size (.d (.sl (cM c xs))) none none bl k kw = if sliceOk xs.length 0 (xs.length:Int) then k (.d (.sl (cM c (sliceL xs 0 (xs.length:Int))))) else none:=sliceK_sl size c xs hs rfl rfl
theorem sliceK_ln (kd:IntKind) (l:Int):sliceK size (.d (.sl (cM c xs))) (some (.d (.int kd l))) none bl k kw = if sliceOk xs.length l (xs.length:Int) then k (.d (.sl (cM c (sliceL xs l (xs.length:Int))))) else none:=sliceK_sl size c xs hs rfl rfl
theorem sliceK_nh (kd:IntKind) (h:Int):sliceK size (.d (.sl (cM c xs))) none (some (.d (.int kd h))) bl k kw = if sliceOk xs.length 0 h then k (.d (.sl (cM c (sliceL xs 0 h)))) else none:=sliceK_sl size c xs hs rfl rfl
theorem sliceK_lh (kd kd' : IntKind) (l h:Int):sliceK size (.d (.sl (cM c xs))) (some (.d (.int kd l))) (some (.d (.int kd' h))) bl k kw = if sliceOk xs.length l h then k (.d (.sl (cM c (sliceL xs l h)))) else none:=sliceK_sl size c xs hs rfl rfl
end
def appK (e size bytes d:Nat) (x y:V) (bl:List (Nat × Option Blk)) (kw:V→List (Nat × Option Blk)→Option β):Option β:=rowsK y bl fun new =>
 if sized size new = true then
   match x with
   | .nil=>blkK bl d fun b=>noneK b (if new.length * bytes ≤ 140737488355328 then kw (.own d 0) [(d,some (.rows 0 e size new))] else none)
   | .own id ver=>blkK bl id fun b=>match b with
    | some (.rows v e' size' rows)=>if ver = v ∧ e' = e ∧ size' = size ∧ (rows.length + new.length) * bytes ≤ 140737488355328 then kw (.own id (ver + 1)) [(id,some (.rows (ver + 1) e size (rows ++ new)))] else none
    | _=>none
   | _=>none
   else none
theorem opK_append (e size bytes:Nat) (x y:Opd):opK T d (.append e size bytes x y) fr bl k kw = opdK fr x fun a=>opdK fr y fun b=>appK e size bytes d a b bl kw:=by
 unfold opK opdK appK rowsK blkK noneK
 simp only [aop]
 generalize evo (lk fr .any) x = v
 cases rowsOf (lk bl none) (evo (lk fr .any) y) with
 | none=>rfl
 | some new =>
  simp only [Option.bind_some]
  by_cases hs:sized size new = true
  ·rw [if_pos hs,if_pos hs]
   cases v with
   | nil =>
    simp only
    cases lk bl none d with
    | none =>
     simp only
     by_cases h:new.length * bytes ≤ 140737488355328
     ·rw [if_pos h,if_pos h]
     ·rw [if_neg h,if_neg h]
    | some b=>rfl
   | own id ver =>
    simp only
    generalize lk bl none id = b
    cases b with
    | none=>rfl
    | some b=>cases b with
     | rows v e' size' rows =>
      simp only
      by_cases h:ver = v ∧ e' = e ∧ size' = size ∧ (rows.length + new.length) * bytes ≤ 140737488355328
      ·rw [if_pos h,if_pos h]
      ·rw [if_neg h,if_neg h]
     | _=>rfl
   | _=>rfl
  ·rw [if_neg hs,if_neg hs]
def appNK {α:Type} (e size bytes d:Nat) (x:V) (c:α→List D) (ys:List α) (bl:List (Nat × Option Blk)) (kw:V→List (Nat × Option Blk)→Option β):Option β:=match x with
   | .nil=>blkK bl d fun b=>noneK b (if ys.length * bytes ≤ 140737488355328 then kw (.own d 0) [(d,some (.rows 0 e size (cM c ys)))] else none)
   | .own id ver=>blkK bl id fun b=>match b with
    | some (.rows v e' size' rows)=>if ver = v ∧ e' = e ∧ size' = size ∧ (rows.length + ys.length) * bytes ≤ 140737488355328 then kw (.own id (ver + 1)) [(id,some (.rows (ver + 1) e size (rows ++ cM c ys)))] else none
    | _=>none
   | _=>none
theorem appK_rows {α:Type} (e size bytes d:Nat) (x y:V) (c:α→List D) (ys:List α) (hy:∀ k' : List (List D)→Option β,rowsK y bl k' = k' (cM c ys)) (hs:sized size (cM c ys) = true):appK e size bytes d x y bl kw = appNK e size bytes d x c ys bl kw:=by
 unfold appK appNK
 rw [hy,if_pos hs,cM_length]
theorem appK_sl {α:Type} (e size bytes d:Nat) (x:V) (c:α→List D) (ys:List α) (hs:sized size (cM c ys) = true):appK e size bytes d x (.d (.sl (cM c ys))) bl kw = appNK e size bytes d x c ys bl kw:=appK_rows e size bytes d x _ c ys (fun _=>rfl) hs
def appBK (e size bytes d:Nat) (x:V) (ver:Nat) (b:Option Blk) (bl:List (Nat × Option Blk)) (kw:V→List (Nat × Option Blk)→Option β):Option β:=rowsBK ver b fun new=>appK e size bytes d x (.d (.sl new)) bl kw
theorem appK_own (e size bytes d id ver:Nat) (x:V):appK e size bytes d x (.own id ver) bl kw = blkK bl id fun b=>appBK e size bytes d x ver b bl kw:=by
 show appK e size bytes d x (.own id ver) bl kw = rowsBK ver (lk bl none id) fun new=>appK e size bytes d x (.d (.sl new)) bl kw
 unfold appK
 rw [rowsK_own]
 rfl
theorem appBK_rows {α:Type} (e size bytes d v e' s' : Nat) (x:V) (c:α→List D) (ys:List α) (hs:sized size (cM c ys) = true):appBK e size bytes d x v (some (.rows v e' s' (cM c ys))) bl kw = appNK e size bytes d x c ys bl kw:=by
 unfold appBK
 rw [rowsBK_rows,appK_sl _ _ _ _ _ _ _ hs]
theorem appBK_froz {α:Type} (e size bytes d v:Nat) (x:V) (c:α→List D) (ys:List α) (hs:sized size (cM c ys) = true):appBK e size bytes d x v (some (.froz v (cM c ys))) bl kw = appNK e size bytes d x c ys bl kw:=by
 unfold appBK
 rw [rowsBK_froz,appK_sl _ _ _ _ _ _ _ hs]
theorem appNK_nil {α:Type} (e size bytes d:Nat) (c:α→List D) (ys:List α):appNK e size bytes d .nil c ys bl kw = blkK bl d fun b=>noneK b (if ys.length * bytes ≤ 140737488355328 then kw (.own d 0) [(d,some (.rows 0 e size (cM c ys)))] else none):=rfl
def appOK {α:Type} (e size bytes id ver:Nat) (c:α→List D) (ys:List α) (b:Option Blk) (kw:V→List (Nat × Option Blk)→Option β):Option β:=match b with
    | some (.rows v e' size' rows)=>if ver = v ∧ e' = e ∧ size' = size ∧ (rows.length + ys.length) * bytes ≤ 140737488355328 then kw (.own id (ver + 1)) [(id,some (.rows (ver + 1) e size (rows ++ cM c ys)))] else none
    | _=>none
theorem appNK_own {α:Type} (e size bytes d id ver:Nat) (c:α→List D) (ys:List α):appNK e size bytes d (.own id ver) c ys bl kw = blkK bl id fun b=>appOK e size bytes id ver c ys b kw:=rfl
theorem appOK_rows {α:Type} (e size bytes id v:Nat) (c:α→List D) (xs ys:List α):appOK e size bytes id v c ys (some (.rows v e size (cM c xs))) kw = if (xs.length + ys.length) * bytes ≤ 140737488355328 then kw (.own id (v + 1)) [(id,some (.rows (v + 1) e size (cM c (xs ++ ys))))] else none:=by
 simp only [appOK,true_and,cM_length,cM_append]
def bsK (e:Nat) (rows:List (List D)) (k:List (List D)→Option β):Option β:=k rows
def rowK (v:V) (bl:List (Nat × Option Blk)) (k:List D→List (Nat × Option Blk)→Option β):Option β:=match mapM' (toD1 (lk bl none)) v.cells with
 | some row=>k row (fz2 (lk bl none) v)
 | none=>none
end
section
end
end
end Vm
end Go.Proofs.Ytmekbfccmnjdcaa
