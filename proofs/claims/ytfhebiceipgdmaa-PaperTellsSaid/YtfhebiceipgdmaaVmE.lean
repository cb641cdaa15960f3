/- The small machine's code, read from the front: what is left to do stands in a continuation. Equations by which the small machine's code is read (they are named in the proofs that a program prints). The small machine, read from the front by rewriting at the head only: every value is looked up before it is used. -/
import Derived.Test.YtfhebiceipgdmaaVmD
set_option linter.unusedVariables false
namespace Go.Proofs.Ytfhebiceipgdmaa
namespace Vm
open Go.RowKit
section
variable {β:Type}
noncomputable def cP (T:FU) (c:bB) (s:St) (k:Ex→St→Option β):Option β:=(ev T c s).bind fun p=>k p.1 p.2
noncomputable def xC (T:FU) (l:List cG) (s:St) (k:St→Option β):Option β:=(uM (call T) l s).bind k
noncomputable def aHF (T:FU) (l:List cG) (ps:List (Nat × Nat)) (s:St) (k:St→Option β):Option β:=(iH (call T) l (some ps) s).bind k
def F4 (r:JI) (k:V→List (Nat × Option aY)→Option β):Option β:=match r with
 | some (v,wr)=>k v wr
 | none=>none
def JM (v:V) (x y:Option β):Option β:=match v with
 | .d (.bool b)=>if b = true then x else y
 | _=>none
def aG0 (k1:St→Option β) (k:Ex→St→Option β):Ex→St→Option β
 | .normal,s=>k1 s
 | e,s=>k e s
def N7 (id:Nat) (k:Ex→St→Option β):Ex→St→Option β
 | .exit id',s=>if id' = id then k .normal s else k (.exit id') s
 | e,s=>k e s
def U8 (m:yK) (k:Ex→St→Option β):Ex→St→Option β
 | .normal,s=>k .normal (m.app s)
 | e,s=>k e s
theorem pR {v v' : V} {x y:Option β} (h:v = v'):JM v x y = JM v' x y:=by rw [h]
theorem aAq (v:V) (wr:List (Nat × Option aY)) (k:V→List (Nat × Option aY)→Option β):F4 (some (v,wr)) k = k v wr:=rfl
theorem XR (b:Bool) (x y:Option β):JM (.d (.bool b)) x y = if b = true then x else y:=rfl
variable {T:FU} {k:Ex→St→Option β}
theorem aDB (s:St):cP T .skip s k = k .normal s:=by unfold cP; rw [aF9]; rfl
theorem aCT (id:Nat) (s:St):cP T (.exit id) s k = k (.exit id) s:=by unfold cP; rw [aGm]; rfl
theorem aHz (s:St):cP T .ret s k = k .ret s:=by unfold cP; rw [aJm]; rfl
theorem VT (l:List cG) (s:St):cP T (.region l none) s k = xC T l s (k .normal):=by
 unfold cP xC
 rw [QK]
 simp only [iH]
 cases uM (call T) l s <;> rfl
theorem aCF (l:List cG) (ps:List (Nat × Nat)) (s:St):cP T (.region l (some ps)) s k = aHF T l ps s (k .normal):=by
 unfold cP aHF
 rw [QK]
 cases iH (call T) l (some ps) s <;> rfl
theorem aIi (a b:bB) (s:St):cP T (.seq a b) s k = cP T a s (aG0 (fun s'=>cP T b s' k) k):=by
 unfold cP
 rw [aKm]
 cases ev T a s with
 | none=>rfl
 | some r =>
  obtain ⟨e,s'⟩:=r
  cases e <;> rfl
theorem aER (c:eM) (a b:bB) (s:St):cP T (.cond c a b) s k = JM (dL s.get c) (cP T a s k) (cP T b s k):=by
 unfold cP
 rw [aGb]
 generalize dL s.get c = v
 cases v with
 | d x=>cases x with
  | bool b=>cases b <;> rfl
  | _=>rfl
 | _=>rfl
theorem aAD (id:Nat) (a:bB) (s:St):cP T (.block id a) s k = cP T a s (N7 id k):=by
 unfold cP
 rw [aEv]
 cases ev T a s with
 | none=>rfl
 | some r =>
  obtain ⟨e,s'⟩:=r
  cases e with
  | normal=>rfl
  | exit i =>
   simp only [Option.bind_some,N7]
   by_cases h:i = id
   ·simp [h]
   ·simp [h]
  | ret=>rfl
theorem aIy (m:yK) (a:bB) (s:St):cP T (.pre m a) s k = cP T a (m.app s) k:=rfl
theorem aEy (m:yK) (a:bB) (s:St):cP T (.post a m) s k = cP T a s (U8 m k):=by
 unfold cP
 rw [aFN]
 cases ev T a s with
 | none=>rfl
 | some r =>
  obtain ⟨e,s'⟩:=r
  cases e <;> rfl
theorem cA {S X:Type} {step:S→Option (S ⊕ X)} {c:bB} (enc:S→St) (out:X→Ex × St) (hout:∀ x s,out x ≠ (.normal,s))
  (h:∀ s,cP T c (enc s) (fun e s'=>some (e,s')) = cV enc out (step s)) (s:S) :
  cP T (.loop c) (enc s) k = (fA step s).bind fun x=>k (out x).1 (out x).2:=by
 unfold cP
 rw [aCE enc out hout (fun s=>by
  have:=h s
  unfold cP at this
  rw [← this]
  cases ev T c (enc s) <;> rfl) s]
 cases fA step s <;> rfl
theorem aJi (k1:St→Option β) (k:Ex→St→Option β) (s:St):aG0 k1 k .normal s = k1 s:=rfl
theorem aKA (k1:St→Option β) (k:Ex→St→Option β) (i:Nat) (s:St):aG0 k1 k (.exit i) s = k (.exit i) s:=rfl
theorem aKa (k1:St→Option β) (k:Ex→St→Option β) (s:St):aG0 k1 k .ret s = k .ret s:=rfl
theorem aEY (id:Nat) (k:Ex→St→Option β) (s:St):N7 id k .normal s = k .normal s:=rfl
theorem aEd (id:Nat) (k:Ex→St→Option β) (i:Nat) (s:St):N7 id k (.exit i) s = if i = id then k .normal s else k (.exit i) s:=rfl
theorem aEp (id:Nat) (k:Ex→St→Option β) (s:St):N7 id k .ret s = k .ret s:=rfl
theorem aIl (m:yK) (k:Ex→St→Option β) (s:St):U8 m k .normal s = k .normal (m.app s):=rfl
theorem aG6 (m:yK) (k:Ex→St→Option β) (i:Nat) (s:St):U8 m k (.exit i) s = k (.exit i) s:=rfl
theorem aIm (m:yK) (k:Ex→St→Option β) (s:St):U8 m k .ret s = k .ret s:=rfl
theorem aCD (s:St) (k:St→Option β):xC T [] s k = k s:=rfl
theorem P4 (d:Option Nat) (op:nS) (l:List cG) (s:St) (k:St→Option β) :
  xC T (⟨d,op,none⟩ :: l) s k = F4 (fP (call T) (d.getD 0) (dL s.get) s.blk op) fun v wr=>xC T l (s.put d v wr) k:=by
 unfold xC F4
 simp only [uM,xQ,cG.wants,cG.site]
 cases fP (call T) (d.getD 0) (dL s.get) s.blk op with
 | none=>rfl
 | some r=>rfl
noncomputable def nH (T:FU):List cG→St→List Fp→(St→List Fp→Option β)→Option β
 | [],s,fp,k=>k s fp
 | o :: l,s,fp,k=>match kJ (call T) o s with
  | some (s',p)=>nH T l s' (p :: fp) k
  | none=>none
theorem aDY (l:List cG) (s:St) (fp:List Fp) (k:St→List Fp→Option β):nH T l s fp k = (jR (call T) l s).bind fun r=>k r.1 (r.2.reverse ++ fp):=by
 induction l generalizing s fp with
 | nil=>rfl
 | cons o l ih =>
  simp only [nH,jR]
  cases kJ (call T) o s with
  | none=>rfl
  | some q =>
   obtain ⟨s',p⟩:=q
   simp only [ih]
   cases jR (call T) l s' with
   | none=>rfl
   | some r=>obtain ⟨s'',ps⟩:=r; simp
def aHK (l:List cG) (ps:List (Nat × Nat)) (k:St→Option β) (s:St) (fp:List Fp):Option β:=if JG l fp.reverse ps = true then k s else none
theorem aGK (l:List cG) (ps:List (Nat × Nat)) (s:St) (k:St→Option β):aHF T l ps s k = nH T l s [] (aHK l ps k):=by
 rw [aDY]
 unfold aHF
 simp only [iH]
 cases jR (call T) l s with
 | none=>rfl
 | some r =>
  obtain ⟨s',fp⟩:=r
  simp only [Option.bind_some,aHK,List.append_nil,List.reverse_reverse]
  cases h:JG l fp ps <;> simp
theorem OM (d:Option Nat) (op:nS) (l:List cG) (s:St) (fp:List Fp) (k:St→List Fp→Option β) :
  nH T (⟨d,op,none⟩ :: l) s fp k = F4 (fP (call T) (d.getD 0) (dL s.get) s.blk op) fun v wr=>nH T l (s.put d v wr) (wS ⟨d,op,none⟩ s.get s.blk wr :: fp) k:=by
 unfold F4
 simp only [nH,kJ,cG.wants,cG.site]
 cases fP (call T) (d.getD 0) (dL s.get) s.blk op with
 | none=>rfl
 | some r=>rfl
theorem OG (fr:List (Nat × V)) (bl:List (Nat × Option aY)) (t:Nat):St.get ⟨fr,bl⟩ t = lk fr .any t:=rfl
theorem aKU (live keep:List Nat) (p:Nat × Nat × Nat × Nat) (l:List (Nat × Nat × Nat × Nat)) (c:List (Nat × Nat × Nat × Nat × Nat)) (ft:List Nat) (fc:List (Nat × Nat)) (s:St):yK.app ⟨live,keep,p :: l,c,ft,fc⟩ s = yK.app ⟨live,keep,l,c,ft,fc⟩ (mkT p s):=rfl
theorem aMl (live keep:List Nat) (p:Nat × Nat × Nat × Nat × Nat) (c:List (Nat × Nat × Nat × Nat × Nat)) (ft:List Nat) (fc:List (Nat × Nat)) (s:St):yK.app ⟨live,keep,[],p :: c,ft,fc⟩ s = yK.app ⟨live,keep,[],c,ft,fc⟩ (mkC p s):=rfl
theorem aKg (live keep:List Nat) (p:Nat) (ft:List Nat) (fc:List (Nat × Nat)) (s:St):yK.app ⟨live,keep,[],[],p :: ft,fc⟩ s = yK.app ⟨live,keep,[],[],ft,fc⟩ (frT p s):=rfl
theorem aJo (live keep:List Nat) (p:Nat × Nat) (fc:List (Nat × Nat)) (s:St):yK.app ⟨live,keep,[],[],[],p :: fc⟩ s = yK.app ⟨live,keep,[],[],[],fc⟩ (frC p s):=rfl
end
end Vm
end Go.Proofs.Ytfhebiceipgdmaa
set_option linter.unusedVariables false
namespace Go.Proofs.Ytfhebiceipgdmaa
namespace Vm
open Go.RowKit
def at? {α:Type} (xs:List α) (n:Int):Option α:=if 0 ≤ n then xs[n.toNat]? else none
def cI (n:Int):List D:=[.int .i64 n]
def cB (b:Bool):List D:=[.bool b]
def cS (s:ByteArray):List D:=[.str s]
def cK (k:IntKind) (n:Int):List D:=[.int k n]
def cD (row:List D):List D:=row
def cM {α:Type} (c:α→List D) (xs:List α):List (List D):=xs.map c
def cL {α:Type} (c:α→List D) (xs:List α):List D:=[.sl (cM c xs)]
def dX {α:Type} (xs:List α) (l h:Int):List α:=(xs.take h.toNat).drop l.toNat
def kM (n:Nat) (l h:Int):Prop:=0 ≤ l ∧ l ≤ h ∧ h.toNat ≤ n
instance (n:Nat) (l h:Int):Decidable (kM n l h):=inferInstanceAs (Decidable (_ ∧ _ ∧ _))
def sAt (s:ByteArray) (n:Int):Option Int:=if 0 ≤ n then s[n.toNat]?.map fun b=>(b.toNat:Int) else none
section
variable {β:Type} {T:FU} {site:Nat} {ev:eM→V} {bl:Nat→Option aY} (k:V→List (Nat × Option aY)→Option β)
def RP (size:Nat) (x i:V) (bl:Nat→Option aY):JI:=match i with
  | .d (.int _ n)=>match x with
   | .own id ver=>match bl id with
    | some (.rows v e sz rows)=>if ver = v ∧ sz = size ∧ 0 ≤ n ∧ n.toNat < rows.length then some (.orow id ver n.toNat 0,[]) else none
    | some (.froz v rows)=>if ver = v ∧ 0 ≤ n then match rows[n.toNat]? with
     | some row=>if row.length = size then some (.d (.ptr row 0),[]) else none
     | none=>none
     else none
    | _=>none
   | .d (.sl rows)=>if 0 ≤ n then match rows[n.toNat]? with
    | some row=>if row.length = size then some (.d (.ptr row 0),[]) else none
    | none=>none
    else none
   | _=>none
  | _=>none
theorem PD (C:Nat→List D→Option D) (size:Nat) (x i:eM):fP C site ev bl (.indexAddr size x i) = RP size (ev x) (ev i) bl:=rfl
theorem aF8 {α:Type} (size:Nat) (c:α→List D) (xs:List α) (kd:IntKind) (n:Int) (bl:Nat→Option aY):F4 (RP size (.d (.sl (cM c xs))) (.d (.int kd n)) bl) k = (at? xs n).bind fun x=>if (c x).length = size then k (.d (.ptr (c x) 0)) [] else none:=by
 simp only [RP,at?,cM]
 by_cases h:0 ≤ n
 ·rw [if_pos h,if_pos h,List.getElem?_map]
  cases xs[n.toNat]? with
  | none=>rfl
  | some x =>
   simp only [Option.map_some,Option.bind_some]
   by_cases h2:(c x).length = size
   ·rw [if_pos h2,if_pos h2]; rfl
   ·rw [if_neg h2,if_neg h2]; rfl
 ·rw [if_neg h,if_neg h]; rfl
def sI (size id ver:Nat) (n:Int) (b:Option aY):JI:=match b with
 | some (.rows v e sz rows)=>if ver = v ∧ sz = size ∧ 0 ≤ n ∧ n.toNat < rows.length then some (.orow id ver n.toNat 0,[]) else none
 | some (.froz v rows)=>if ver = v ∧ 0 ≤ n then match rows[n.toNat]? with
  | some row=>if row.length = size then some (.d (.ptr row 0),[]) else none
  | none=>none
  else none
 | _=>none
theorem aBT (size id ver v e sz:Nat) (n:Int) (rows:List (List D)) (k:V→List (Nat × Option aY)→Option β):F4 (sI size id ver n (some (.rows v e sz rows))) k = if ver = v then (if sz = size then (if 0 ≤ n ∧ n.toNat < rows.length then k (.orow id ver n.toNat 0) [] else none) else none) else none:=by
 simp only [sI]
 by_cases h1:ver = v
 ·by_cases h2:sz = size
  ·by_cases h3:0 ≤ n ∧ n.toNat < rows.length
   ·rw [if_pos ⟨h1,h2,h3⟩,if_pos h1,if_pos h2,if_pos h3]; rfl
   ·rw [if_neg (fun q=>h3 q.2.2),if_pos h1,if_pos h2,if_neg h3]; rfl
  ·rw [if_neg (fun q=>h2 q.2.1),if_pos h1,if_neg h2]; rfl
 ·rw [if_neg (fun q=>h1 q.1),if_neg h1]; rfl
theorem aBk {α:Type} (size id ver v:Nat) (n:Int) (c:α→List D) (xs:List α) (k:V→List (Nat × Option aY)→Option β):F4 (sI size id ver n (some (.froz v (cM c xs)))) k = if ver = v then ((at? xs n).bind fun x=>if (c x).length = size then k (.d (.ptr (c x) 0)) [] else none) else none:=by
 simp only [sI,at?,cM]
 by_cases h1:ver = v
 ·by_cases h:0 ≤ n
  ·rw [if_pos ⟨h1,h⟩,if_pos h1,if_pos h,List.getElem?_map]
   cases xs[n.toNat]? with
   | none=>rfl
   | some x =>
    simp only [Option.map_some,Option.bind_some]
    by_cases h2:(c x).length = size
    ·rw [if_pos h2,if_pos h2]; rfl
    ·rw [if_neg h2,if_neg h2]; rfl
  ·rw [if_neg (fun q=>h q.2),if_pos h1,if_neg h]; rfl
 ·rw [if_neg (fun q=>h1 q.1),if_neg h1]; rfl
def SI (size:Nat) (isAgg:Bool) (off:Nat) (row:List D):JI :=
 if isAgg then (if off + size ≤ row.length then some (.agg (((row.drop off).take size).map .d),[]) else none) else row[off]?.map fun v=>(.d v,[])
def ZU (size:Nat) (isAgg:Bool) (off:Nat) (b:Option aY):JI:=match b with
 | some (.box cs) =>
  if isAgg then (if off + size ≤ cs.length then some (.agg ((cs.drop off).take size),[]) else none)
  else cs[off]?.map fun v=>(v,[])
 | some (.fbox row)=>SI size isAgg off row
 | _=>none
def aCZ (size:Nat) (isAgg:Bool) (ver i off:Nat) (b:Option aY):JI:=match b with
 | some (.rows v e sz rows)=>if ver = v then match rows[i]? with
  | some row=>SI size isAgg off row
  | none=>none
  else none
 | _=>none
def L4 (size:Nat) (isAgg:Bool) (x:V) (bl:Nat→Option aY):JI:=match x with
 | .ptr id off=>ZU size isAgg off (bl id)
 | .d (.ptr row off)=>SI size isAgg off row
 | .orow id ver i off=>aCZ size isAgg ver i off (bl id)
 | _=>none
theorem J1 (C:Nat→List D→Option D) (size:Nat) (isAgg:Bool) (x:eM):fP C site ev bl (.load size isAgg x) = L4 size isAgg (ev x) bl:=rfl
theorem aAG (size:Nat) (isAgg:Bool) (id off:Nat) (bl:Nat→Option aY):L4 size isAgg (.ptr id off) bl = ZU size isAgg off (bl id):=rfl
theorem aGh (size:Nat) (isAgg:Bool) (id ver i off:Nat) (bl:Nat→Option aY):L4 size isAgg (.orow id ver i off) bl = aCZ size isAgg ver i off (bl id):=rfl
theorem aFX (size off:Nat) (cs:List V):ZU size true off (some (.box cs)) = if off + size ≤ cs.length then some (.agg ((cs.drop off).take size),[]) else none:=rfl
theorem aGr (size off:Nat) (cs:List V):ZU size false off (some (.box cs)) = cs[off]?.map fun v=>(v,[]):=rfl
def M9 (size ver i off id:Nat) (fz:List (Nat × Option aY)) (ds:Option (List D)) (b:Option aY):JI:=match b with
 | some (.rows w e sz rows)=>if ver = w then match rows[i]?,ds with
  | some row,some ds=>if ds.length = size ∧ off + size ≤ row.length ∧ B0 id fz = true then some (.any,(id,some (.rows w e sz (rows.set i (iU row off ds)))) :: fz) else none
  | _,_=>none
  else none
 | _=>none
def WK (size off id:Nat) (v:V) (b:Option aY):JI:=match b with
 | some (.box cs)=>if v.cells.length = size ∧ off + size ≤ cs.length ∧ v.known = true then some (.any,[(id,some (.box (iU cs off v.cells)))]) else none
 | _=>none
def W6 (size:Nat) (x v:V) (bl:Nat→Option aY):JI:=match x with
 | .ptr id off=>WK size off id v (bl id)
 | .orow id ver i off=>M9 size ver i off id (yB bl v) (bY (m8 bl) v.cells) (bl id)
 | _=>none
theorem aCd (C:Nat→List D→Option D) (size:Nat) (x v:eM):fP C site ev bl (.store size x v) = W6 size (ev x) (ev v) bl:=rfl
theorem aC7 (size id off:Nat) (v:V) (bl:Nat→Option aY):W6 size (.ptr id off) v bl = WK size off id v (bl id):=rfl
theorem aE7 (size id ver i off:Nat) (v:V) (bl:Nat→Option aY):W6 size (.orow id ver i off) v bl = M9 size ver i off id (yB bl v) (bY (m8 bl) v.cells) (bl id):=rfl
theorem W2 (size off id:Nat) (v:V) (cs:List V):WK size off id v (some (.box cs)) = if v.cells.length = size ∧ off + size ≤ cs.length ∧ v.known = true then some (.any,[(id,some (.box (iU cs off v.cells)))]) else none:=rfl
theorem aA6 (C:Nat→List D→Option D) (size:Nat) (x:eM) (lo hi:Option eM):fP C site ev bl (.slice size x lo hi) = vX bl size (ev x) (lo.map ev) (hi.map ev):=rfl
def aDz (ver:Nat) (b:Option aY):Option (List (List D)):=match b with
 | some (.rows v _ _ rows)=>if ver = v then some rows else none
 | some (.froz v rows)=>if ver = v then some rows else none
 | _=>none
def C4 (v:Option V) (d:Int):Option Int:=match v with
 | none=>some d
 | some (.d (.int _ h))=>some h
 | _=>none
theorem aB0 {α:Type} (size:Nat) (c:α→List D) (xs:List α) (lo hi:Option V) (l h:Int) (hl:C4 lo 0 = some l) (hh:C4 hi (xs.length:Int) = some h) (hs:sized size (cM c xs) = true) (bl:Nat→Option aY):F4 (vX bl size (.d (.sl (cM c xs))) lo hi) k = if kM xs.length l h then k (.d (.sl (cM c (dX xs l h)))) [] else none:=by
 have e0:∀ lo' hi',vX bl size (.d (.sl (cM c xs))) lo' hi' = (match C4 hi' ((cM c xs).length:Int),C4 lo' 0 with
   | some h,some l=>if 0 ≤ l ∧ l ≤ h ∧ h.toNat ≤ (cM c xs).length ∧ sized size (cM c xs) = true then some (.d (.sl (((cM c xs).take h.toNat).drop l.toNat)),[]) else none
   | _,_=>none):=fun lo' hi'=>rfl
 rw [e0,show ((cM c xs).length:Int) = (xs.length:Int) by simp [cM],hl,hh]
 simp only [show (cM c xs).length = xs.length by simp [cM]]
 by_cases q:kM xs.length l h
 ·rw [if_pos q,if_pos ⟨q.1,q.2.1,q.2.2,hs⟩]
  simp only [aAq,cM,dX,List.map_drop,List.map_take]
 ·rw [if_neg q,if_neg (fun w=>q ⟨w.1,w.2.1,w.2.2.1⟩)]; rfl
def GQ (x i:V):JI:=match x,i with
  | .d (.str s),.d (.int _ n)=>if 0 ≤ n then match s[n.toNat]? with
   | some b=>some (.d (.int .u8 b.toNat),[])
   | none=>none
   else none
  | _,_=>none
theorem aAu (C:Nat→List D→Option D) (x i:eM):fP C site ev bl (.index x i) = GQ (ev x) (ev i):=rfl
theorem aFc (s:ByteArray) (kd:IntKind) (n:Int):F4 (GQ (.d (.str s)) (.d (.int kd n))) k = (sAt s n).bind fun b=>k (.d (.int .u8 b)) []:=by
 simp only [GQ,sAt]
 split
 ·cases s[n.toNat]? <;> rfl
 ·rfl
end
section
variable {S X:Type} {enc:S→St} {out:X→Ex × St}
theorem aK (c:Prop) [Decidable c] (a b:Option (S ⊕ X)):cV enc out (if c then a else b) = if c then cV enc out a else cV enc out b:=by split <;> rfl
theorem aF {α:Type} (o:Option α) (f:α→Option (S ⊕ X)):cV enc out (o.bind f) = o.bind fun x=>cV enc out (f x):=by cases o <;> rfl
theorem aD:cV enc out none = none:=rfl
theorem aL (s:S):cV enc out (some (.inl s)) = some (.normal,enc s):=rfl
theorem aM (x:X):cV enc out (some (.inr x)) = some (out x):=rfl
end
theorem fG {α:Type} (size:Nat) (c:α→List D) (hc:∀ x,(c x).length = size) (xs:List α):sized size (cM c xs) = true:=by
 simp [sized,cM,hc]
theorem aQ (xs:List Int):sized 1 (cM cI xs) = true:=fG _ _ (fun x=>by rfl) xs
theorem aS (k:IntKind) (xs:List Int):sized 1 (cM (cK k) xs) = true:=fG _ _ (fun x=>by rfl) xs
theorem aP (xs:List Bool):sized 1 (cM cB xs) = true:=fG _ _ (fun x=>by rfl) xs
theorem aV (xs:List ByteArray):sized 1 (cM cS xs) = true:=fG _ _ (fun x=>by rfl) xs
theorem aT {α:Type} (c:α→List D) (xs:List (List α)):sized 1 (cM (cL c) xs) = true:=fG _ _ (fun x=>by rfl) xs
theorem aH {α:Type} (c:α→List D) (xs:List α):(cM c xs).length = xs.length:=by simp [cM]
theorem aA1 {α:Type} (c:α→List D) (xs ys:List α):cM c xs ++ cM c ys = cM c (xs ++ ys):=by simp [cM]
theorem aJ6 {α:Type} (c:α→List D) (xs:List α) (i:Nat) (x:α):cM c (xs.set i x) = (cM c xs).set i (c x):=by simp [cM,List.map_set]
theorem RW {α:Type} (c:α→List D) (n:Nat) (x:α):cM c (List.replicate n x) = List.replicate n (c x):=by simp [cM]
theorem aR {α γ:Type} (c:Prop) [Decidable c] (a b:Option α) (f:α→Option γ):(if c then a else b).bind f = if c then a.bind f else b.bind f:=by split <;> rfl
theorem aZ {α γ:Type} (c:Prop) [Decidable c] (a b:Option α) (f:α→γ):(if c then a else b).map f = if c then a.map f else b.map f:=by split <;> rfl
theorem aU {α γ δ:Type} (o:Option α) (f:α→Option γ) (g:γ→δ):(o.bind f).map g = o.bind fun x=>(f x).map g:=by cases o <;> rfl
theorem aJ {α γ:Type} (f:α→Option γ):(none:Option α).bind f = none:=rfl
theorem aI {α γ δ ε:Type} (f:α→Option δ) (g:γ→Option δ) (x:α ⊕ γ) (h:δ→Option ε):(Sum.elim f g x).bind h = Sum.elim (fun y=>(f y).bind h) (fun y=>(g y).bind h) x:=by cases x <;> rfl
theorem aW {α γ δ ε:Type} (f:α→Option δ) (g:γ→Option δ) (x:α ⊕ γ) (h:δ→ε):(Sum.elim f g x).map h = Sum.elim (fun y=>(f y).map h) (fun y=>(g y).map h) x:=by cases x <;> rfl
def gIf {α:Type} (b:Bool) (x y:α):α:=if b = true then x else y
theorem bG {α:Type} (b:Bool) (x y:α):gIf b x y = if b = true then x else y:=rfl
theorem aE {S X α γ:Type} {enc:S→St} {out:X→Ex × St} (f:α→Option (S ⊕ X)) (g:γ→Option (S ⊕ X)) (x:α ⊕ γ):cV enc out (Sum.elim f g x) = Sum.elim (fun y=>cV enc out (f y)) (fun y=>cV enc out (g y)) x:=by cases x <;> rfl
def aNr (sf:cQ):Ex→St→Option D
 | .normal,s=>GX sf s
 | .ret,s=>GX sf s
 | .exit _,_=>none
theorem aCO {T:FU} {f:Nat} {sf:cQ} (hf:T f = some (.code sf)) (ds:List D) (hl:ds.length = sf.np):Vm.call T f ds = cP T sf.body ⟨rN 0 ds,[]⟩ (aNr sf):=by
 rw [aFT hf ds hl]
 unfold cP
 cases Vm.ev T sf.body ⟨rN 0 ds,[]⟩ with
 | none=>rfl
 | some q =>
  obtain ⟨e,s⟩:=q
  cases e <;> rfl
theorem bK {α β:Type} (o:Option α) {f g:α→Option β} (h:∀ x,f x = g x):o.bind f = o.bind g:=by rw [funext h]
end Vm
end Go.Proofs.Ytfhebiceipgdmaa
set_option linter.unusedVariables false
namespace Go.Proofs.Ytfhebiceipgdmaa
namespace Vm
open Go.RowKit
section
variable {β:Type}
def wZ (fr:List (Nat × V)) (t:Nat) (k:V→Option β):Option β:=k (lk fr .any t)
def fI (bl:List (Nat × Option aY)) (i:Nat) (k:Option aY→Option β):Option β:=k (lk bl none i)
def dU (fr:List (Nat × V)) (o:eM) (k:V→Option β):Option β:=k (dL (lk fr .any) o)
theorem aCN (t:Nat) (v:V) (fr:List (Nat × V)) (k:V→Option β):wZ ((t,v) :: fr) t k = k v:=by simp [wZ,lk]
theorem aAF (a t:Nat) (v:V) (fr:List (Nat × V)) (k:V→Option β) (h:(t == a) = false):wZ ((a,v) :: fr) t k = wZ fr t k:=by
 have:¬ t = a:=by simpa using h
 simp [wZ,lk,this]
theorem aES (t:Nat) (k:V→Option β):wZ [] t k = k .any:=rfl
theorem aDL (t:Nat) (v:Option aY) (fr:List (Nat × Option aY)) (k:Option aY→Option β):fI ((t,v) :: fr) t k = k v:=by simp [fI,lk]
theorem aAn (a t:Nat) (v:Option aY) (fr:List (Nat × Option aY)) (k:Option aY→Option β) (h:(t == a) = false):fI ((a,v) :: fr) t k = fI fr t k:=by
 have:¬ t = a:=by simpa using h
 simp [fI,lk,this]
theorem aEA (t:Nat) (k:Option aY→Option β):fI [] t k = k none:=rfl
theorem aGM (bl:List (Nat × Option aY)) (t:Nat) (k:Option aY→Option β):fI ([] ++ bl) t k = fI bl t k:=rfl
theorem aHC (p:Nat × Option aY) (w bl:List (Nat × Option aY)) (t:Nat) (k:Option aY→Option β):fI ((p :: w) ++ bl) t k = fI (p :: (w ++ bl)) t k:=rfl
theorem aJX (fr:List (Nat × V)) (t:Nat) (k:V→Option β):dU fr (.t t) k = wZ fr t k:=rfl
theorem aJF (fr:List (Nat × V)) (v:V) (k:V→Option β):dU fr (.c v) k = k v:=rfl
def aC (ds:List D):List V:=ds.map .d
def cO (ds:List D):V:=.agg (aC ds)
noncomputable def wL (T:FU) (d:Nat) (op:nS) (fr:List (Nat × V)) (bl:List (Nat × Option aY)) (k:V→Option β) (kw:V→List (Nat × Option aY)→Option β):Option β :=
 match fP (call T) d (dL (lk fr .any)) (lk bl none) op with
 | none=>none
 | some (v,[])=>k v
 | some (v,p :: wr)=>kw v (p :: wr)
theorem aBb {T:FU} (d:Nat) (op:nS) (l:List cG) (fr:List (Nat × V)) (bl:List (Nat × Option aY)) (k:St→Option β) :
  xC T (⟨some d,op,none⟩ :: l) ⟨fr,bl⟩ k = wL T d op fr bl (fun v=>xC T l ⟨(d,v) :: fr,bl⟩ k) (fun v wr=>xC T l ⟨(d,v) :: fr,wr ++ bl⟩ k):=by
 rw [P4]
 unfold wL F4
 show (match fP (call T) d (dL (lk fr .any)) (lk bl none) op with | some (v,wr)=>_ | none=>none) = _
 cases fP (call T) d (dL (lk fr .any)) (lk bl none) op with
 | none=>rfl
 | some r=>obtain ⟨v,wr⟩:=r; cases wr <;> rfl
theorem VO {T:FU} (op:nS) (l:List cG) (fr:List (Nat × V)) (bl:List (Nat × Option aY)) (k:St→Option β) :
  xC T (⟨none,op,none⟩ :: l) ⟨fr,bl⟩ k = wL T 0 op fr bl (fun _=>xC T l ⟨fr,bl⟩ k) (fun _ wr=>xC T l ⟨fr,wr ++ bl⟩ k):=by
 rw [P4]
 unfold wL F4
 show (match fP (call T) 0 (dL (lk fr .any)) (lk bl none) op with | some (v,wr)=>_ | none=>none) = _
 cases fP (call T) 0 (dL (lk fr .any)) (lk bl none) op with
 | none=>rfl
 | some r=>obtain ⟨v,wr⟩:=r; cases wr <;> rfl
def bN (t:Nat) (b:Bool) (op:nS):nS:=match op with
 | .pick (.t t') x y=>if t' = t then .move (if b then x else y) else op
 | op=>op
def bM (t:Nat) (b:Bool) (o:cG):cG:=match o.guard with
 | some (t',w)=>if t' = t then (if w = b then ⟨o.dst,bN t b o.op,none⟩ else ⟨o.dst,.move (.c (.tup [])),none⟩) else ⟨o.dst,bN t b o.op,some (t',w)⟩
 | none=>⟨o.dst,bN t b o.op,none⟩
def bJ (t:Nat) (b:Bool):List cG→List cG
 | []=>[]
 | o :: l=>bM t b o :: (if o.dst = some t then l else bJ t b l)
theorem zV {C:Nat→List D→Option D} {site:Nat} {fr:Nat→V} {bl:Nat→Option aY} {t:Nat} {b:Bool} (h:fr t = .d (.bool b)) (op:nS):fP C site (dL fr) bl (bN t b op) = fP C site (dL fr) bl op:=by
 cases op with
 | pick c x y =>
  cases c with
  | t t' =>
   simp only [bN]
   split
   ·rename_i e
    subst e
    simp only [fP,dL,h]
    cases b <;> rfl
   ·rfl
  | c v=>rfl
 | _=>rfl
theorem aCj {C:Nat→List D→Option D} {s:St} {t:Nat} {b:Bool} (h:s.get t = .d (.bool b)) (o:cG):xQ C (bM t b o) s = xQ C o s:=by
 obtain ⟨d,op,g⟩:=o
 cases g with
 | some g =>
  obtain ⟨t',w⟩:=g
  simp only [bM]
  split
  ·rename_i e
   subst e
   split
   ·rename_i e
    subst e
    simp only [xQ,cG.wants,h,cG.site,zV h]
    cases w <;> rfl
   ·rename_i e
    simp only [xQ,cG.wants,h,cG.site,fP,dL]
    cases w <;> cases b <;> simp_all [xV]
  ·simp only [xQ,cG.wants,cG.site,zV h]
 | none=>simp only [bM,xQ,cG.wants,cG.site,zV h]
theorem E9 {s:St} {d:Option Nat} {v:V} {wr:List (Nat × Option aY)} {t:Nat} (h:¬ d = some t):(s.put d v wr).get t = s.get t:=by
 cases d with
 | none=>rfl
 | some a =>
  show lk ((a,v) :: s.fr) .any t = lk s.fr .any t
  have:¬ t = a:=fun e=>h (by rw [e])
  simp [lk,this]
theorem aBh {C:Nat→List D→Option D} {o:cG} {s s' : St} {t:Nat} (h:¬ o.dst = some t) (e:xQ C o s = some s'):s'.get t = s.get t:=by
 unfold xQ at e
 split at e
 ·split at e
  ·cases e; exact E9 h
  ·cases e
 ·cases e; exact E9 h
 ·cases e
theorem KS {C:Nat→List D→Option D} {t:Nat} {b:Bool}:∀ (l:List cG) {s:St} (h:s.get t = .d (.bool b)),uM C (bJ t b l) s = uM C l s
 | [],s,h=>rfl
 | o :: l,s,h=>by
  simp only [bJ,uM,aCj h]
  cases e:xQ C o s with
  | none=>rfl
  | some s' =>
   simp only
   split
   ·rfl
   ·rename_i hd
    exact KS l (by rw [aBh hd e]; exact h)
noncomputable def I5 (T:FU) (v:V) (t:Nat) (l:List cG) (s:St) (k:St→Option β):Option β:=match v with
 | .d (.bool b)=>if b = true then xC T (bJ t true l) s k else xC T (bJ t false l) s k
 | .tup []=>match l with
  | o :: r=>xC T r (s.put o.dst (.tup []) []) k
  | []=>none
 | _=>none
theorem V7 {T:FU} (d:Option Nat) (op:nS) (t:Nat) (w:Bool) (l:List cG) (fr:List (Nat × V)) (bl:List (Nat × Option aY)) (k:St→Option β) :
  xC T (⟨d,op,some (t,w)⟩ :: l) ⟨fr,bl⟩ k = wZ fr t fun v=>I5 T v t (⟨d,op,some (t,w)⟩ :: l) ⟨fr,bl⟩ k:=by
 show _ = I5 T (lk fr .any t) t _ _ k
 generalize hv:lk fr .any t = v
 have bad:∀ (q:xV v w = .bad),xC T (⟨d,op,some (t,w)⟩ :: l) ⟨fr,bl⟩ k = none:=by
  intro q
  unfold xC
  simp only [uM,xQ,cG.wants]
  rw [show (St.get ⟨fr,bl⟩ t) = v from hv,q]; rfl
 cases v with
 | d x =>
  cases x with
  | bool b =>
   simp only [I5]
   cases b with
   | true=>rw [if_pos rfl]; unfold xC; rw [KS (t:=t) (b:=true) (s:=⟨fr,bl⟩) _ hv]
   | false=>rw [if_neg (by decide)]; unfold xC; rw [KS (t:=t) (b:=false) (s:=⟨fr,bl⟩) _ hv]
  | _=>exact bad rfl
 | tup vs =>
  cases vs with
  | nil =>
   simp only [I5]
   unfold xC
   simp only [uM,xQ,cG.wants]
   rw [show (St.get ⟨fr,bl⟩ t) = _ from hv]
   rfl
  | cons x l=>exact bad rfl
 | _=>exact bad rfl
theorem aDO {T:FU} (b:Bool) (t:Nat) (l:List cG) (s:St) (k:St→Option β):I5 T (.d (.bool b)) t l s k = if b = true then xC T (bJ t true l) s k else xC T (bJ t false l) s k:=rfl
theorem aDw {T:FU} (t d:Nat) (op:nS) (g:Option (Nat × Bool)) (l:List cG) (fr:List (Nat × V)) (bl:List (Nat × Option aY)) (k:St→Option β):I5 T (.tup []) t (⟨some d,op,g⟩ :: l) ⟨fr,bl⟩ k = xC T l ⟨(d,.tup []) :: fr,bl⟩ k:=rfl
theorem aAe {T:FU} (t:Nat) (op:nS) (g:Option (Nat × Bool)) (l:List cG) (fr:List (Nat × V)) (bl:List (Nat × Option aY)) (k:St→Option β):I5 T (.tup []) t (⟨none,op,g⟩ :: l) ⟨fr,bl⟩ k = xC T l ⟨fr,bl⟩ k:=rfl
theorem rP {T:FU} {l l' : List cG} {s:St} {k:St→Option β} (h:l = l'):xC T l s k = xC T l' s k:=by rw [h]
section
variable {T:FU} {d:Nat} {fr:List (Nat × V)} {bl:List (Nat × Option aY)} {k:V→Option β} {kw:V→List (Nat × Option aY)→Option β}
def J4 (r:JI) (k:V→Option β) (kw:V→List (Nat × Option aY)→Option β):Option β:=match r with
 | none=>none
 | some (v,[])=>k v
 | some (v,p :: wr)=>kw v (p :: wr)
theorem NN (o:Option D):J4 (JI.v o) k kw = o.bind fun x=>k (.d x):=by cases o <;> rfl
theorem aDA:wL T d .fail fr bl k kw = none:=rfl
theorem aFk (x:eM):wL T d (.move x) fr bl k kw = dU fr x k:=rfl
theorem aEf (c a b:eM):wL T d (.pick c a b) fr bl k kw = dU fr c fun v=>JM v (dU fr a k) (dU fr b k):=by
 unfold wL dU JM
 simp only [fP]
 generalize dL (lk fr .any) c = v
 cases v with
 | d x=>cases x with
  | bool b=>cases b <;> rfl
  | _=>rfl
 | _=>rfl
theorem aHc (x y:Option β):JM (.d (.bool true)) x y = x:=rfl
theorem aHi (x y:Option β):JM (.d (.bool false)) x y = y:=rfl
def s4 (b:Option aY) (x:Option β):Option β:=match b with
 | none=>x
 | some _=>none
theorem aHU (x:Option β):s4 none x = x:=rfl
theorem aFw (b:aY) (x:Option β):s4 (some b) x = none:=rfl
theorem aBi (z:List V):wL T d (.alloc z) fr bl k kw = fI bl d fun b=>s4 b (kw (.ptr d 0) [(d,some (.box z))]):=by
 unfold wL fI s4
 simp only [fP]
 cases lk bl none d <;> rfl
def xF (v:V) (k:List V→Option β):Option β:=if v.known = true then k v.cells else none
theorem aEM (x:D) (k:List V→Option β):xF (.d x) k = k [.d x]:=rfl
theorem W3 (k:List V→Option β):xF .nil k = k [.nil]:=rfl
theorem VX (cs:List V) (k:List V→Option β):xF (.agg cs) k = k cs:=rfl
theorem UR (ds:List D) (k:List V→Option β):xF (cO ds) k = k (aC ds):=rfl
theorem WF (i o:Nat) (k:List V→Option β):xF (.ptr i o) k = k [.ptr i o]:=rfl
theorem W8 (i o:Nat) (k:List V→Option β):xF (.own i o) k = k [.own i o]:=rfl
theorem SX (i v j o:Nat) (k:List V→Option β):xF (.orow i v j o) k = k [.orow i v j o]:=rfl
theorem WA (k:List V→Option β):xF .any k = none:=rfl
theorem aFO (x:eM):wL T d (.box x) fr bl k kw = fI bl d fun b=>s4 b (dU fr x fun v=>xF v fun cs=>kw (.ptr d 0) [(d,some (.box cs))]):=by
 unfold wL fI s4 dU xF
 simp only [fP]
 cases lk bl none d with
 | none =>
  simp only
  by_cases h:(dL (lk fr .any) x).known = true
  ·rw [if_pos h,if_pos h]
  ·rw [if_neg h,if_neg h]
 | some b=>rfl
def L0 (fr:List (Nat × V)):List eM→(List V→Option β)→Option β
 | [],k=>k []
 | x :: l,k=>dU fr x fun v=>L0 fr l fun vs=>k (v :: vs)
theorem UI (l:List eM) (k:List V→Option β):L0 fr l k = k (l.map (dL (lk fr .any))):=by
 induction l generalizing k with
 | nil=>rfl
 | cons x l ih=>simp only [L0,dU,ih,List.map_cons]
theorem aBv (k:List V→Option β):L0 fr [] k = k []:=rfl
theorem WU (x:eM) (l:List eM) (k:List V→Option β):L0 fr (x :: l) k = dU fr x fun v=>L0 fr l fun vs=>k (v :: vs):=rfl
def I4 (fr:List (Nat × V)):List (Nat × Nat × eM)→(List (Nat × Nat × V)→Option β)→Option β
 | [],k=>k []
 | (o,s,x) :: l,k=>dU fr x fun v=>I4 fr l fun vs=>k ((o,s,v) :: vs)
theorem n6 (op:nS):wL T d op fr bl k kw = J4 (fP (call T) d (dL (lk fr .any)) (lk bl none) op) k kw:=by
 unfold wL J4
 cases fP (call T) d (dL (lk fr .any)) (lk bl none) op with
 | none=>rfl
 | some r=>obtain ⟨v,wr⟩:=r; cases wr <;> rfl
theorem EH (r:JI):J4 r k kw = F4 r fun v wr=>match wr with | []=>k v | p :: w=>kw v (p :: w):=by
 cases r with
 | none=>rfl
 | some r=>obtain ⟨v,wr⟩:=r; cases wr <;> rfl
def CA:List V→Nat→(V→Option β)→Option β
 | [],_,_=>none
 | c :: _,0,k=>k c
 | _ :: cs,n + 1,k=>CA cs n k
theorem JS (cs:List V) (n:Nat) (k:V→Option β):CA cs n k = cs[n]?.bind k:=by
 induction cs generalizing n with
 | nil=>rfl
 | cons c cs ih=>cases n with
  | zero=>rfl
  | succ n=>simp only [CA,ih,List.getElem?_cons_succ]
theorem aHw (c:V) (cs:List V) (k:V→Option β):CA (c :: cs) 0 k = k c:=rfl
theorem aHD (c:V) (cs:List V) (n:Nat) (k:V→Option β):CA (c :: cs) (n + 1) k = CA cs n k:=rfl
def cC (ds:List D) (n:Nat) (k:D→Option β):Option β:=ds[n]?.bind k
def m0 (ds:List D) (off size:Nat) (k:List D→Option β):Option β:=if off + size ≤ ds.length then k ((ds.drop off).take size) else none
def uU (cs:List V) (off size:Nat) (k:List V→Option β):Option β:=if off + size ≤ cs.length then k ((cs.drop off).take size) else none
theorem YV (ds:List D) (n:Nat) (k:V→Option β):CA (aC ds) n k = cC ds n fun x=>k (.d x):=by
 rw [JS]
 unfold aC cC
 rw [List.getElem?_map]
 cases ds[n]? <;> rfl
theorem aAH (cs:List V) (n:Nat) (k:List V→Option β) (h:cs.length = n):uU cs 0 n k = k cs:=by
 subst h
 simp [uU]
theorem XE (c:V) (cs:List V) (off n:Nat) (k:List V→Option β):uU (c :: cs) (off + 1) n k = uU cs off n k:=by
 unfold uU
 simp only [List.length_cons,List.drop_succ_cons]
 by_cases h:off + n ≤ cs.length
 ·rw [if_pos h,if_pos (by omega)]
 ·rw [if_neg h,if_neg (by omega)]
theorem YR (c:V) (cs:List V) (n:Nat) (k:List V→Option β):uU (c :: cs) 0 (n + 1) k = uU cs 0 n fun l=>k (c :: l):=by
 unfold uU
 simp only [List.length_cons,List.drop_zero,List.take_succ_cons]
 by_cases h:0 + n ≤ cs.length
 ·rw [if_pos h,if_pos (by omega)]
 ·rw [if_neg h,if_neg (by omega)]
theorem WQ (cs:List V) (k:List V→Option β):uU cs 0 0 k = k []:=by simp [uU]
theorem RK (ds:List D) (off n:Nat) (k:List V→Option β):uU (aC ds) off n k = m0 ds off n fun l=>k (aC l):=by
 unfold uU m0 aC
 simp only [List.length_map,List.map_take,List.map_drop]
def ES (size:Nat) (isAgg:Bool) (off:Nat) (b:Option aY) (k:V→Option β):Option β:=match b with
 | some (.box cs)=>if isAgg = true then uU cs off size fun l=>k (.agg l) else CA cs off k
 | some (.fbox row)=>if isAgg = true then m0 row off size fun l=>k (cO l) else cC row off fun x=>k (.d x)
 | _=>none
def NX (size:Nat) (isAgg:Bool) (ver i off:Nat) (b:Option aY) (k:V→Option β):Option β:=match b with
 | some (.rows v e sz rows)=>if ver = v then rows[i]?.bind fun row=>(if isAgg = true then m0 row off size fun l=>k (cO l) else cC row off fun x=>k (.d x)) else none
 | _=>none
def AC (size:Nat) (isAgg:Bool) (x:V) (bl:List (Nat × Option aY)) (k:V→Option β):Option β:=match x with
 | .ptr id off=>fI bl id fun b=>ES size isAgg off b k
 | .d (.ptr row off)=>if isAgg = true then m0 row off size fun l=>k (cO l) else cC row off fun x=>k (.d x)
 | .orow id ver i off=>fI bl id fun b=>NX size isAgg ver i off b k
 | _=>none
theorem UX (size:Nat) (isAgg:Bool) (x:eM):wL T d (.load size isAgg x) fr bl k kw = dU fr x fun v=>AC size isAgg v bl k:=by
 rw [n6,J1]
 unfold dU
 generalize dL (lk fr .any) x = v
 have hD:∀ row off,J4 (SI size isAgg off row) k kw = if isAgg = true then m0 row off size fun l=>k (cO l) else cC row off fun x=>k (.d x):=by
  intro row off
  unfold SI
  cases isAgg with
  | true=>simp only [if_true,m0]; split <;> rfl
  | false=>simp only [Bool.false_eq_true,if_false,cC]; cases row[off]? <;> rfl
 cases v with
 | ptr id off =>
  rw [aAG]
  simp only [AC,fI]
  generalize lk bl none id = b
  cases b with
  | none=>rfl
  | some b=>cases b with
   | box cs =>
    cases isAgg with
    | true=>simp only [aFX,ES,if_true,uU]; split <;> rfl
    | false=>simp only [aGr,ES,Bool.false_eq_true,if_false,JS]; cases cs[off]? <;> rfl
   | fbox row=>exact hD row off
   | _=>rfl
 | d x=>cases x with
  | ptr row off=>exact hD row off
  | _=>rfl
 | orow id ver i off =>
  rw [aGh]
  simp only [AC,fI]
  generalize lk bl none id = b
  cases b with
  | none=>rfl
  | some b=>cases b with
   | rows v e sz rows =>
    simp only [aCZ,NX]
    split
    ·cases rows[i]? with
     | none=>rfl
     | some row=>exact hD row off
    ·rfl
   | _=>rfl
 | _=>rfl
theorem aA7 (size:Nat) (isAgg:Bool) (id off:Nat):AC size isAgg (.ptr id off) bl k = fI bl id fun b=>ES size isAgg off b k:=rfl
theorem aE9 (size:Nat) (row:List D) (off:Nat):AC size true (.d (.ptr row off)) bl k = m0 row off size fun l=>k (cO l):=rfl
theorem aDP (size:Nat) (row:List D) (off:Nat):AC size false (.d (.ptr row off)) bl k = cC row off fun x=>k (.d x):=rfl
theorem aHL (size:Nat) (isAgg:Bool) (id ver i off:Nat):AC size isAgg (.orow id ver i off) bl k = fI bl id fun b=>NX size isAgg ver i off b k:=rfl
theorem aBZ (size off:Nat) (row:List D):ES size true off (some (.fbox row)) k = m0 row off size fun l=>k (cO l):=rfl
theorem aAV (size off:Nat) (row:List D):ES size false off (some (.fbox row)) k = cC row off fun x=>k (.d x):=rfl
theorem aEt (size off:Nat) (cs:List V):ES size false off (some (.box cs)) k = CA cs off k:=rfl
theorem aDc (size off:Nat) (c:V) (cs:List V):ES size true off (some (.box (c :: cs))) k = uU (c :: cs) off size fun l=>k (.agg l):=rfl
theorem aDr (size off:Nat) (ds:List D):ES size true off (some (.box (aC ds))) k = m0 ds off size fun l=>k (cO l):=by
 show uU (aC ds) off size (fun l=>k (.agg l)) = _
 rw [RK]; rfl
theorem TI {α:Type} (size:Nat) (isAgg:Bool) (v i off e sz:Nat) (c:α→List D) (xs:List α):NX size isAgg v i off (some (.rows v e sz (cM c xs))) k = xs[i]?.bind fun x=>AC size isAgg (.d (.ptr (c x) off)) [] k:=by
 simp only [NX,if_true,cM,List.getElem?_map]
 cases xs[i]? <;> rfl
def z0:List V→Nat→V→(List V→Option β)→Option β
 | [],_,_,_=>none
 | _ :: cs,0,v,k=>k (v :: cs)
 | c :: cs,n + 1,v,k=>z0 cs n v fun l=>k (c :: l)
theorem SW (cs:List V) (n:Nat) (v:V) (k:List V→Option β):z0 cs n v k = if n + 1 ≤ cs.length then k (iU cs n [v]) else none:=by
 induction cs generalizing n k with
 | nil=>rfl
 | cons c cs ih=>cases n with
  | zero=>rw [if_pos (by simp)]; cases cs <;> rfl
  | succ n =>
   simp only [z0,ih,iU,List.length_cons]
   by_cases h:n + 1 ≤ cs.length
   ·rw [if_pos h,if_pos (by omega)]
   ·rw [if_neg h,if_neg (by omega)]
theorem aGi (c:V) (cs:List V) (v:V) (k:List V→Option β):z0 (c :: cs) 0 v k = k (v :: cs):=rfl
theorem aFR (c:V) (cs:List V) (n:Nat) (v:V) (k:List V→Option β):z0 (c :: cs) (n + 1) v k = z0 cs n v fun l=>k (c :: l):=rfl
def dH (cs:List V) (off:Nat) (ws:List V) (k:List V→Option β):Option β:=if off + ws.length ≤ cs.length then k (iU cs off ws) else none
theorem QA {α:Type} (l:List α) (n:Nat):iU l n [] = l:=by cases l <;> rfl
theorem UT (c:V) (cs:List V) (off:Nat) (ws:List V) (k:List V→Option β) (hw:ws ≠ []):dH (c :: cs) (off + 1) ws k = dH cs off ws fun l=>k (c :: l):=by
 unfold dH
 cases ws with
 | nil=>exact absurd rfl hw
 | cons w ws =>
  simp only [List.length_cons,iU]
  by_cases h:off + (ws.length + 1) ≤ cs.length
  ·rw [if_pos h,if_pos (by omega)]
  ·rw [if_neg h,if_neg (by omega)]
theorem V2 (c:V) (cs:List V) (w:V) (ws:List V) (k:List V→Option β):dH (c :: cs) 0 (w :: ws) k = dH cs 0 ws fun l=>k (w :: l):=by
 unfold dH
 simp only [List.length_cons,iU]
 by_cases h:0 + ws.length ≤ cs.length
 ·rw [if_pos h,if_pos (by omega)]
 ·rw [if_neg h,if_neg (by omega)]
theorem W9 (cs:List V) (k:List V→Option β):dH cs 0 [] k = k cs:=by simp [dH,QA]
def aO (size off id:Nat) (v:V) (b:Option aY) (kw:V→List (Nat × Option aY)→Option β):Option β:=match b with
 | some (.box cs)=>if v.cells.length = size ∧ off + size ≤ cs.length ∧ v.known = true then kw .any [(id,some (.box (iU cs off v.cells)))] else none
 | _=>none
def KF (size ver i off id:Nat) (v:V) (bl:List (Nat × Option aY)) (b:Option aY) (kw:V→List (Nat × Option aY)→Option β):Option β:=F4 (M9 size ver i off id (yB (lk bl none) v) (bY (m8 (lk bl none)) v.cells) b) kw
def OD (size:Nat) (p v:V) (bl:List (Nat × Option aY)) (kw:V→List (Nat × Option aY)→Option β):Option β:=match p with
 | .ptr id off=>fI bl id fun b=>aO size off id v b kw
 | .orow id ver i off=>fI bl id fun b=>KF size ver i off id v bl b kw
 | _=>none
theorem aCg (size:Nat) (x v:eM):wL T d (.store size x v) fr bl k kw = dU fr x fun p=>dU fr v fun w=>OD size p w bl kw:=by
 rw [n6,aCd]
 unfold dU
 generalize dL (lk fr .any) x = p
 generalize dL (lk fr .any) v = w
 cases p with
 | ptr id off =>
  rw [aC7]
  simp only [OD,fI]
  generalize lk bl none id = b
  cases b with
  | none=>rfl
  | some b=>cases b with
   | box cs =>
    simp only [W2,aO]
    by_cases h:w.cells.length = size ∧ off + size ≤ cs.length ∧ w.known = true
    ·rw [if_pos h,if_pos h]; rfl
    ·rw [if_neg h,if_neg h]; rfl
   | _=>rfl
 | orow id ver i off =>
  rw [aE7]
  simp only [OD,fI,KF]
  rw [EH]
  generalize lk bl none id = b
  cases b with
  | none=>rfl
  | some b=>cases b with
   | rows v e sz rows =>
    simp only [M9]
    by_cases h:ver = v
    ·rw [if_pos h]
     cases rows[i]? with
     | none=>rfl
     | some row =>
      cases bY (m8 (lk bl none)) w.cells with
      | none=>rfl
      | some ds =>
       simp only
       split <;> rfl
    ·rw [if_neg h]; rfl
   | _=>rfl
 | _=>rfl
theorem aFa (size id off:Nat) (v:V):OD size (.ptr id off) v bl kw = fI bl id fun b=>aO size off id v b kw:=rfl
theorem aEe (size id ver i off:Nat) (v:V):OD size (.orow id ver i off) v bl kw = fI bl id fun b=>KF size ver i off id v bl b kw:=rfl
theorem G9 (off id:Nat) (w c:V) (cs:List V) (hw:w.one = true) (hk:w.known = true):aO 1 off id w (some (.box (c :: cs))) kw = z0 (c :: cs) off w fun l=>kw .any [(id,some (.box l))]:=by
 have hc:w.cells = [w]:=by cases w <;> first | rfl | cases hw
 rw [SW]
 simp only [aO,hc,hk]
 by_cases h:off + 1 ≤ (c :: cs).length
 ·rw [if_pos h,if_pos ⟨rfl,h,trivial⟩]
 ·rw [if_neg h,if_neg (fun q=>h q.2.1)]
theorem aBN (off id:Nat) (x:D) (c:V) (cs:List V):aO 1 off id (.d x) (some (.box (c :: cs))) kw = z0 (c :: cs) off (.d x) fun l=>kw .any [(id,some (.box l))]:=G9 off id _ c cs rfl rfl
theorem TB (off id:Nat) (c:V) (cs:List V):aO 1 off id .nil (some (.box (c :: cs))) kw = z0 (c :: cs) off .nil fun l=>kw .any [(id,some (.box l))]:=G9 off id _ c cs rfl rfl
theorem UY (off id i v:Nat) (c:V) (cs:List V):aO 1 off id (.own i v) (some (.box (c :: cs))) kw = z0 (c :: cs) off (.own i v) fun l=>kw .any [(id,some (.box l))]:=G9 off id _ c cs rfl rfl
theorem UQ (off id i v:Nat) (c:V) (cs:List V):aO 1 off id (.ptr i v) (some (.box (c :: cs))) kw = z0 (c :: cs) off (.ptr i v) fun l=>kw .any [(id,some (.box l))]:=G9 off id _ c cs rfl rfl
def o8 (cs:List V) (n:Nat) (x:Option β):Option β:=if cs.length = n then x else none
theorem aFq (x:Option β):o8 [] 0 x = x:=rfl
theorem aGp (c:V) (cs:List V) (n:Nat) (x:Option β):o8 (c :: cs) (n + 1) x = o8 cs n x:=by
 unfold o8
 simp only [List.length_cons]
 by_cases h:cs.length = n
 ·rw [if_pos h,if_pos (by omega)]
 ·rw [if_neg h,if_neg (by omega)]
theorem SL (size off id:Nat) (ws:List V) (c:V) (cs:List V):aO size off id (.agg ws) (some (.box (c :: cs))) kw = o8 ws size (dH (c :: cs) off ws fun l=>kw .any [(id,some (.box l))]):=by
 unfold o8 dH
 show (if ws.length = size ∧ off + size ≤ (c :: cs).length ∧ V.known (.agg ws) = true then kw .any [(id,some (.box (iU (c :: cs) off ws)))] else none) = _
 by_cases h:ws.length = size
 ·subst h
  rw [if_pos rfl]
  by_cases h:off + ws.length ≤ (c :: cs).length
  ·rw [if_pos h,if_pos ⟨rfl,h,rfl⟩]
  ·rw [if_neg h,if_neg (fun q=>h q.2.1)]
 ·rw [if_neg h,if_neg (fun q=>h q.1)]
theorem QF {α:Type}:∀ (l m:List α),l.length = m.length→iU l 0 m = m
 | [],[],_=>rfl
 | _ :: l,x :: m,h=>by
  simp only [iU]
  rw [QF l m (by simpa using h)]
 | [],_ :: _,h=>by simp at h
 | _ :: _,[],h=>by simp at h
theorem cW (n id:Nat) (ds:List D) (hd:ds.length = n) (cs:List V) (hc:cs.length = n):aO n 0 id (cO ds) (some (.box cs)) kw = kw .any [(id,some (.box (aC ds)))]:=by
 have e:(aC ds).length = n:=by rw [← hd]; simp [aC]
 show (if (aC ds).length = n ∧ 0 + n ≤ cs.length ∧ V.known (cO ds) = true then kw .any [(id,some (.box (iU cs 0 (aC ds))))] else none) = _
 rw [if_pos ⟨e,by omega,rfl⟩,QF _ _ (by rw [hc,e])]
def aEF (v:V) (bl:List (Nat × Option aY)) (k:V→Option β):Option β:=match v with
 | .ptr id off=>k (.ptr id off)
 | .d (.ptr row off)=>k (.d (.ptr row off))
 | .orow id ver i off=>fI bl id fun b=>match b with
  | some (.rows v _ _ _)=>if ver = v then k (.orow id ver i off) else none
  | _=>none
 | _=>none
theorem SF (x:eM):wL T d (.nilCheck x) fr bl k kw = dU fr x fun v=>aEF v bl k:=by
 unfold wL dU
 simp only [fP]
 generalize dL (lk fr .any) x = v
 cases v with
 | d x=>cases x <;> rfl
 | orow id ver i off =>
  simp only [aEF,fI]
  generalize lk bl none id = b
  cases b with
  | none=>rfl
  | some b=>cases b with
   | rows v e s rows=>simp only; by_cases h:ver = v <;> simp [h]
   | _=>rfl
 | _=>rfl
theorem aJD (id off:Nat):aEF (.ptr id off) bl k = k (.ptr id off):=rfl
theorem aJ3 (row:List D) (off:Nat):aEF (.d (.ptr row off)) bl k = k (.d (.ptr row off)):=rfl
def U7 (id ver i off:Nat) (b:Option aY) (k:V→Option β):Option β:=match b with
 | some (.rows v _ _ _)=>if ver = v then k (.orow id ver i off) else none
 | _=>none
theorem aJE (id ver i off:Nat):aEF (.orow id ver i off) bl k = fI bl id fun b=>U7 id ver i off b k:=rfl
theorem aGn (id ver i off e s:Nat) (rows:List (List D)):U7 id ver i off (some (.rows ver e s rows)) k = k (.orow id ver i off):=if_pos rfl
def faK (off:Nat) (v:V) (bl:List (Nat × Option aY)) (k:V→Option β):Option β:=match v with
 | .ptr id o=>k (.ptr id (o + off))
 | .d (.ptr row o)=>k (.d (.ptr row (o + off)))
 | .orow id ver i o=>fI bl id fun b=>U7 id ver i (o + off) b k
 | _=>none
theorem PI (off:Nat) (x:eM):wL T d (.fieldAddr off x) fr bl k kw = dU fr x fun v=>faK off v bl k:=by
 unfold wL dU
 simp only [fP]
 generalize dL (lk fr .any) x = v
 cases v with
 | d x=>cases x <;> rfl
 | orow id ver i o =>
  simp only [faK,fI]
  generalize lk bl none id = b
  cases b with
  | none=>rfl
  | some b=>cases b with
   | rows v e s rows=>simp only [U7]; by_cases h:ver = v <;> simp [h]
   | _=>rfl
 | _=>rfl
theorem aLJ (off id o:Nat):faK off (.ptr id o) bl k = k (.ptr id (o + off)):=rfl
theorem aLe (off:Nat) (row:List D) (o:Nat):faK off (.d (.ptr row o)) bl k = k (.d (.ptr row (o + off))):=rfl
theorem aLn (off id ver i o:Nat):faK off (.orow id ver i o) bl k = fI bl id fun b=>U7 id ver i (o + off) b k:=rfl
def qQ (c:Nat) (op:BinOp) (a b:V) (k:V→Option β):Option β:=(AB c op a b).bind fun x=>k (.d x)
theorem aHS (c:Nat) (op:BinOp) (x y:eM):wL T d (.bin c op x y) fr bl k kw = dU fr x fun a=>dU fr y fun b=>qQ c op a b k:=by
 rw [n6]
 exact NN _
section
variable (kd:IntKind) (x y:Int)
theorem aDX:qQ 0 .add (.d (.int kd x)) (.d (.int kd y)) k = k (.d (.int kd (IntKind.wrap kd (x + y)))):=by simp [qQ,AB,pV]
theorem aEg:qQ 0 .sub (.d (.int kd x)) (.d (.int kd y)) k = k (.d (.int kd (IntKind.wrap kd (x - y)))):=by simp [qQ,AB,pV]
theorem aDf:qQ 0 .mul (.d (.int kd x)) (.d (.int kd y)) k = k (.d (.int kd (IntKind.wrap kd (x * y)))):=by simp [qQ,AB,pV]
theorem aDo:qQ 0 .quo (.d (.int kd x)) (.d (.int kd y)) k = if y = 0 then none else k (.d (.int kd (IntKind.wrap kd (x.tdiv y)))):=by
 simp only [qQ,AB,pV,if_true]; split <;> rfl
theorem aFb:qQ 0 .rem (.d (.int kd x)) (.d (.int kd y)) k = if y = 0 then none else k (.d (.int kd (x.tmod y))):=by
 simp only [qQ,AB,pV,if_true]; split <;> rfl
theorem aE2:qQ 0 .eql (.d (.int kd x)) (.d (.int kd y)) k = k (.d (.bool (x == y))):=by simp [qQ,AB,pV]
theorem aCS:qQ 0 .neq (.d (.int kd x)) (.d (.int kd y)) k = k (.d (.bool (x != y))):=by simp [qQ,AB,pV]
theorem aEc:qQ 0 .lss (.d (.int kd x)) (.d (.int kd y)) k = k (.d (.bool (decide (x < y)))):=by simp [qQ,AB,pV]
theorem aEU:qQ 0 .leq (.d (.int kd x)) (.d (.int kd y)) k = k (.d (.bool (decide (x ≤ y)))):=by simp [qQ,AB,pV]
theorem aDV:qQ 0 .gtr (.d (.int kd x)) (.d (.int kd y)) k = k (.d (.bool (decide (x > y)))):=by simp [qQ,AB,pV]
theorem aC4:qQ 0 .geq (.d (.int kd x)) (.d (.int kd y)) k = k (.d (.bool (decide (x ≥ y)))):=by simp [qQ,AB,pV]
theorem aEx:qQ 0 .and (.d (.int kd x)) (.d (.int kd y)) k = k (.d (.int kd (IntKind.wrap kd (BitVec.ofInt (IntKind.bits kd) x &&& BitVec.ofInt (IntKind.bits kd) y).toNat))):=by simp [qQ,AB,pV]
theorem aFy:qQ 0 .or (.d (.int kd x)) (.d (.int kd y)) k = k (.d (.int kd (IntKind.wrap kd (BitVec.ofInt (IntKind.bits kd) x ||| BitVec.ofInt (IntKind.bits kd) y).toNat))):=by simp [qQ,AB,pV]
theorem aDe:qQ 0 .xor (.d (.int kd x)) (.d (.int kd y)) k = k (.d (.int kd (IntKind.wrap kd (BitVec.ofInt (IntKind.bits kd) x ^^^ BitVec.ofInt (IntKind.bits kd) y).toNat))):=by simp [qQ,AB,pV]
end
section
variable (x y:ByteArray)
theorem aA4:qQ 0 .eql (.d (.str x)) (.d (.str y)) k = k (.d (.bool (x.toList == y.toList))):=rfl
theorem aB3:qQ 0 .neq (.d (.str x)) (.d (.str y)) k = k (.d (.bool !(x.toList == y.toList))):=rfl
theorem aBx:qQ 0 .lss (.d (.str x)) (.d (.str y)) k = k (.d (.bool (Op.bytesLess x.toList y.toList))):=rfl
theorem aBy:qQ 0 .leq (.d (.str x)) (.d (.str y)) k = k (.d (.bool (Op.bytesLess x.toList y.toList || x.toList == y.toList))):=rfl
theorem aAl:qQ 0 .gtr (.d (.str x)) (.d (.str y)) k = k (.d (.bool !(Op.bytesLess x.toList y.toList || x.toList == y.toList))):=rfl
theorem aAC:qQ 0 .geq (.d (.str x)) (.d (.str y)) k = k (.d (.bool !(Op.bytesLess x.toList y.toList))):=rfl
end
theorem aAW (x y:Bool):qQ 1 .eql (.d (.bool x)) (.d (.bool y)) k = k (.d (.bool (x == y))):=rfl
theorem aAr (x y:Bool):qQ 1 .neq (.d (.bool x)) (.d (.bool y)) k = k (.d (.bool !(x == y))):=rfl
def NM (o:Option D) (k:V→Option β):Option β:=o.bind fun x=>k (.d x)
theorem rO {o o' : Option D} {k:V→Option β} (h:o = o'):NM o k = NM o' k:=by rw [h]
theorem aAx (x:D):NM (some x) k = k (.d x):=rfl
theorem aA5:NM none k = none:=rfl
theorem aIq (ks:List Nat) (neg:Bool) (x y:eM):wL T d (.eqS ks neg x y) fr bl k kw = dU fr x fun a=>dU fr y fun b=>NM (eqV ks neg a b) k:=by
 rw [n6]
 exact NN _
def dR:List Nat→List V→List V→(Bool→Option β)→Option β:=fun ks xs ys k=>match eS ks xs ys with
 | some b=>k b
 | none=>none
def PA (ks:List Nat) (neg:Bool) (a b:V) (k:V→Option β):Option β:=match a,b with
 | .agg xs,.agg ys=>dR ks xs ys fun b=>k (.d (.bool (if neg then !b else b)))
 | _,_=>none
theorem aIr (ks:List Nat) (neg:Bool) (x y:eM):wL T d (.eqS ks neg x y) fr bl k kw = dU fr x fun a=>dU fr y fun b=>PA ks neg a b k:=by
 rw [aIq]
 unfold dU
 generalize dL (lk fr .any) x = a
 generalize dL (lk fr .any) y = b
 cases a with
 | agg xs=>cases b with
  | agg ys =>
   simp only [eqV,PA,dR,NM]
   cases eS ks xs ys <;> rfl
  | _=>rfl
 | _=>cases b <;> rfl
section
variable {k:V→Option β}
theorem aE6 (ks:List Nat) (xs ys:List V):PA ks true (.agg xs) (.agg ys) k = dR ks xs ys fun b=>k (.d (.bool !b)):=rfl
theorem aC8 (ks:List Nat) (xs ys:List V):PA ks false (.agg xs) (.agg ys) k = dR ks xs ys fun b=>k (.d (.bool b)):=rfl
theorem aCC (ks:List Nat) (xs:List D) (ys:List V):PA ks true (cO xs) (.agg ys) k = dR ks (aC xs) ys fun b=>k (.d (.bool !b)):=rfl
theorem aDK (ks:List Nat) (xs:List D) (ys:List V):PA ks false (cO xs) (.agg ys) k = dR ks (aC xs) ys fun b=>k (.d (.bool b)):=rfl
theorem aEO (ks:List Nat) (xs:List V) (ys:List D):PA ks true (.agg xs) (cO ys) k = dR ks xs (aC ys) fun b=>k (.d (.bool !b)):=rfl
theorem aEh (ks:List Nat) (xs:List V) (ys:List D):PA ks false (.agg xs) (cO ys) k = dR ks xs (aC ys) fun b=>k (.d (.bool b)):=rfl
theorem aFh (ks:List Nat) (xs ys:List D):PA ks true (cO xs) (cO ys) k = dR ks (aC xs) (aC ys) fun b=>k (.d (.bool !b)):=rfl
theorem aCq (ks:List Nat) (xs ys:List D):PA ks false (cO xs) (cO ys) k = dR ks (aC xs) (aC ys) fun b=>k (.d (.bool b)):=rfl
end
section
variable {k:Bool→Option β}
theorem aHR (kd:IntKind) (x y:Int):dR [0] [.d (.int kd x)] [.d (.int kd y)] k = k (x == y):=by simp [dR,eS,v9]
theorem aIG (x y:Bool):dR [1] [.d (.bool x)] [.d (.bool y)] k = k (x == y):=by simp [dR,eS,v9]
theorem aFY (x y:ByteArray):dR [2] [.d (.str x)] [.d (.str y)] k = k (x == y):=by simp [dR,eS,v9]
theorem aJ7 (kd:IntKind) (x y:Int) (c:Nat) (ks:List Nat) (xs ys:List V):dR (0 :: c :: ks) (.d (.int kd x) :: xs) (.d (.int kd y) :: ys) k = dR (c :: ks) xs ys fun b=>k ((x == y) && b):=by
 simp only [dR,eS,v9,if_true]
 cases eS (c :: ks) xs ys <;> rfl
theorem aKn (x y:Bool) (c:Nat) (ks:List Nat) (xs ys:List V):dR (1 :: c :: ks) (.d (.bool x) :: xs) (.d (.bool y) :: ys) k = dR (c :: ks) xs ys fun b=>k ((x == y) && b):=by
 simp only [dR,eS,v9]
 cases eS (c :: ks) xs ys <;> rfl
theorem aJn (x y:ByteArray) (c:Nat) (ks:List Nat) (xs ys:List V):dR (2 :: c :: ks) (.d (.str x) :: xs) (.d (.str y) :: ys) k = dR (c :: ks) xs ys fun b=>k ((x == y) && b):=by
 simp only [dR,eS,v9]
 cases eS (c :: ks) xs ys <;> rfl
end
def aDN (kd:IntKind) (x:Int):List V→(V→Option β)→Option β:=fun l k=>NM (XD kd x l) k
def aCH (kd:IntKind) (x:Int):List V→(V→Option β)→Option β:=fun l k=>NM (YA kd x l) k
def aJe (l:List V) (k:V→Option β):Option β:=NM (aFn l) k
def aIK (l:List V) (k:V→Option β):Option β:=NM (aIp l) k
theorem aGg (l:List eM):wL T d (.max l) fr bl k kw = L0 fr l fun vs=>aJe vs k:=by
 rw [n6,UI]
 exact NN _
theorem aIg (l:List eM):wL T d (.min l) fr bl k kw = L0 fr l fun vs=>aIK vs k:=by
 rw [n6,UI]
 exact NN _
section
variable {k:V→Option β}
theorem aF2 (kd:IntKind) (x:Int) (l:List V):aJe (.d (.int kd x) :: l) k = aDN kd x l k:=rfl
theorem aG4 (kd:IntKind) (x:Int) (l:List V):aIK (.d (.int kd x) :: l) k = aCH kd x l k:=rfl
theorem aC5 (kd:IntKind) (x:Int):aDN kd x [] k = k (.d (.int kd x)):=rfl
theorem aDs (kd:IntKind) (x:Int):aCH kd x [] k = k (.d (.int kd x)):=rfl
theorem aB5 (kd:IntKind) (x y:Int) (l:List V):aDN kd x (.d (.int kd y) :: l) k = aDN kd (if y > x then y else x) l k:=by simp [aDN,XD]
theorem aAt (kd:IntKind) (x y:Int) (l:List V):aCH kd x (.d (.int kd y) :: l) k = aCH kd (if y < x then y else x) l k:=by simp [aCH,YA]
end
def unK (op:UnOp) (v:V) (k:V→Option β):Option β:=NM (unV op v) k
theorem aJ8 (op:UnOp) (x:eM):wL T d (.un op x) fr bl k kw = dU fr x fun a=>unK op a k:=by
 rw [n6]
 exact NN _
theorem aIf (b:Bool):unK .not (.d (.bool b)) k = k (.d (.bool !b)):=rfl
theorem aGs (kd:IntKind) (n:Int):unK .neg (.d (.int kd n)) k = k (.d (.int kd (IntKind.wrap kd (0 - n)))):=rfl
def aIX (kd:IntKind) (v:V) (k:V→Option β):Option β:=match v with
 | .d (.int _ n)=>k (.d (.int kd (IntKind.wrap kd n)))
 | _=>none
theorem aD3 (kd:IntKind) (x:eM):wL T d (.conv kd x) fr bl k kw = dU fr x fun a=>aIX kd a k:=by
 unfold wL dU
 simp only [fP]
 generalize dL (lk fr .any) x = v
 cases v with
 | d x=>cases x <;> rfl
 | _=>rfl
theorem aFF (kd kd' : IntKind) (n:Int):aIX kd (.d (.int kd' n)) k = k (.d (.int kd (IntKind.wrap kd n))):=rfl
def kF (s:ByteArray):List Int:=s.data.toList.map fun b=>(b.toNat:Int)
def X0 (v:V) (k:V→Option β):Option β:=match v with
 | .d (.str s)=>k (.d (.sl (cM (cK .u8) (kF s))))
 | _=>none
theorem aBz (x:eM):wL T d (.bytes x) fr bl k kw = dU fr x fun a=>X0 a k:=by
 unfold wL dU
 simp only [fP]
 generalize dL (lk fr .any) x = v
 cases v with
 | d x=>cases x with
  | str s =>
   have:(s.data.toList.map fun b=>[D.int .u8 (b.toNat:Int)]) = cM (cK .u8) (kF s):=by
    simp only [cM,kF,List.map_map]
    rfl
   simp only [X0,this]
  | _=>rfl
 | _=>rfl
theorem aCQ (s:ByteArray):X0 (.d (.str s)) k = k (.d (.sl (cM (cK .u8) (kF s)))):=rfl
def IG (v:V) (bl:List (Nat × Option aY)) (k:List (List D)→Option β):Option β:=(kI (lk bl none) v).bind k
def GP (ver:Nat) (b:Option aY) (k:List (List D)→Option β):Option β:=(aDz ver b).bind k
theorem aDn (rows:List (List D)) (k:List (List D)→Option β):IG (.d (.sl rows)) bl k = k rows:=rfl
theorem aAE (k:List (List D)→Option β):IG .nil bl k = k []:=rfl
theorem QG (id ver:Nat) (k:List (List D)→Option β):IG (.own id ver) bl k = fI bl id fun b=>GP ver b k:=by
 unfold IG fI GP
 simp only [kI]
 generalize lk bl none id = b
 cases b with
 | none=>rfl
 | some b=>cases b <;> rfl
theorem MI (v e s:Nat) (rows:List (List D)) (k:List (List D)→Option β):GP v (some (.rows v e s rows)) k = k rows:=by simp [GP,aDz]
theorem MA (v:Nat) (rows:List (List D)) (k:List (List D)→Option β):GP v (some (.froz v rows)) k = k rows:=by simp [GP,aDz]
theorem aGO (x:eM):wL T d (.len x) fr bl k kw = dU fr x fun a=>IG a bl fun rows=>k (.d (.int .i64 rows.length)):=by
 unfold wL dU IG
 simp only [fP]
 cases kI (lk bl none) (dL (lk fr .any) x) <;> rfl
def aJg (v:V) (k:V→Option β):Option β:=match v with
 | .d (.str s)=>k (.d (.int .i64 s.size))
 | _=>none
theorem aCU (x:eM):wL T d (.lenS x) fr bl k kw = dU fr x fun a=>aJg a k:=by
 unfold wL dU
 simp only [fP]
 generalize dL (lk fr .any) x = v
 cases v with
 | d x=>cases x <;> rfl
 | _=>rfl
theorem aGI (s:ByteArray):aJg (.d (.str s)) k = k (.d (.int .i64 s.size)):=rfl
def I3 (off size:Nat) (isAgg:Bool) (v:V) (k:V→Option β):Option β:=match v with
 | .agg cs=>if isAgg = true then uU cs off size fun l=>k (.agg l) else CA cs off k
 | _=>none
theorem aBX (off size:Nat) (isAgg:Bool) (x:eM):wL T d (.field off size isAgg x) fr bl k kw = dU fr x fun v=>I3 off size isAgg v k:=by
 unfold wL dU
 simp only [fP]
 generalize dL (lk fr .any) x = v
 cases v with
 | agg cs =>
  cases isAgg with
  | true =>
   simp only [I3,uU,if_true]
   by_cases h:off + size ≤ cs.length
   ·rw [if_pos h,if_pos h]
   ·rw [if_neg h,if_neg h]
  | false=>simp only [I3,JS,Bool.false_eq_true,if_false]; cases cs[off]? <;> rfl
 | _=>rfl
theorem aDD (off size:Nat) (cs:List V):I3 off size false (.agg cs) k = CA cs off k:=rfl
theorem aDv (off size:Nat) (cs:List V):I3 off size true (.agg cs) k = uU cs off size fun l=>k (.agg l):=rfl
theorem aCk (off size:Nat) (ds:List D):I3 off size false (cO ds) k = cC ds off fun x=>k (.d x):=by
 show CA (aC ds) off k = _
 rw [YV]
theorem aBQ (off size:Nat) (ds:List D):I3 off size true (cO ds) k = m0 ds off size fun l=>k (cO l):=by
 show uU (aC ds) off size (fun l=>k (.agg l)) = _
 rw [RK]; rfl
def kY (ds:List D) (n:Nat) (x:Option β):Option β:=if ds.length = n then x else none
def aCV (size:Nat) (x i:V) (bl:List (Nat × Option aY)) (k:V→Option β):Option β:=J4 (RP size x i (lk bl none)) k fun _ _=>none
theorem aAf {size:Nat} {x i:V} {b:Nat→Option aY} {kw' : V→List (Nat × Option aY)→Option β}:J4 (RP size x i b) k kw = J4 (RP size x i b) k kw':=by
 have:∀ r,RP size x i b = some r→r.2 = []:=by
  intro r
  unfold RP
  intro e
  repeat' split at e
  all_goals first | cases e; rfl | cases e
 cases h:RP size x i b with
 | none=>rfl
 | some r=>obtain ⟨v,wr⟩:=r; have:=this _ h; dsimp only at this; subst this; rfl
theorem PF (size:Nat) (x i:eM):wL T d (.indexAddr size x i) fr bl k kw = dU fr x fun a=>dU fr i fun b=>aCV size a b bl k:=by
 rw [n6,PD]
 unfold dU aCV
 exact aAf
theorem aHX {α:Type} (size:Nat) (c:α→List D) (xs:List α) (kd:IntKind) (n:Int):aCV size (.d (.sl (cM c xs))) (.d (.int kd n)) bl k = (at? xs n).bind fun x=>kY (c x) size (k (.d (.ptr (c x) 0))):=by
 unfold aCV
 rw [EH,aF8]
 rfl
def UH (size id ver:Nat) (n:Int) (b:Option aY) (k:V→Option β):Option β:=J4 (sI size id ver n b) k fun _ _=>none
theorem aCp (size id ver:Nat) (kd:IntKind) (n:Int):aCV size (.own id ver) (.d (.int kd n)) bl k = fI bl id fun b=>UH size id ver n b k:=rfl
theorem WR {α:Type} (size id v e:Nat) (n:Int) (c:α→List D) (xs:List α):UH size id v n (some (.rows v e size (cM c xs))) k = if 0 ≤ n ∧ n.toNat < xs.length then k (.orow id v n.toNat 0) else none:=by
 unfold UH
 rw [EH,aBT,if_pos rfl,if_pos rfl,aH]
theorem YL {α:Type} (size id v:Nat) (n:Int) (c:α→List D) (xs:List α):UH size id v n (some (.froz v (cM c xs))) k = (at? xs n).bind fun x=>kY (c x) size (k (.d (.ptr (c x) 0))):=by
 unfold UH
 rw [EH,aBk,if_pos rfl]
 rfl
def ZC (x i:V) (k:V→Option β):Option β:=F4 (GQ x i) fun v _=>k v
theorem aAy (x i:eM):wL T d (.index x i) fr bl k kw = dU fr x fun a=>dU fr i fun b=>ZC a b k:=by
 rw [n6,aAu]
 unfold dU ZC
 generalize dL (lk fr .any) x = a
 generalize dL (lk fr .any) i = b
 have:∀ r,GQ a b = some r→r.2 = []:=by
  intro r
  unfold GQ
  intro e
  repeat' split at e
  all_goals first | cases e; rfl | cases e
 show _ = F4 (GQ a b) fun v _=>k v
 cases h:GQ a b with
 | none=>rfl
 | some r=>obtain ⟨v,wr⟩:=r; have:=this _ h; dsimp only at this; subst this; rfl
theorem aHp (s:ByteArray) (kd:IntKind) (n:Int):ZC (.d (.str s)) (.d (.int kd n)) k = (sAt s n).bind fun b=>k (.d (.int .u8 b)):=by
 unfold ZC
 rw [aFc]
def aGe (fr:List (Nat × V)) (o:Option eM) (k:Option V→Option β):Option β:=match o with
 | none=>k none
 | some x=>dU fr x fun v=>k (some v)
theorem aKd (k:Option V→Option β):aGe fr none k = k none:=rfl
theorem aKb (x:eM) (k:Option V→Option β):aGe fr (some x) k = dU fr x fun v=>k (some v):=rfl
def E6 (size:Nat) (x:V) (lo hi:Option V) (bl:List (Nat × Option aY)) (k:V→Option β) (kw:V→List (Nat × Option aY)→Option β):Option β:=J4 (vX (lk bl none) size x lo hi) k kw
theorem aBu (size:Nat) (x:eM) (lo hi:Option eM):wL T d (.slice size x lo hi) fr bl k kw = dU fr x fun a=>aGe fr lo fun l=>aGe fr hi fun h=>E6 size a l h bl k kw:=by
 rw [n6,aA6]
 cases lo <;> cases hi <;> rfl
section
variable {α:Type} (size:Nat) (c:α→List D) (xs:List α) (hs:sized size (cM c xs) = true)
include hs
theorem HD {lo hi:Option V} {l h:Int} (hl:C4 lo 0 = some l) (hh:C4 hi (xs.length:Int) = some h):E6 size (.d (.sl (cM c xs))) lo hi bl k kw = if kM xs.length l h then k (.d (.sl (cM c (dX xs l h)))) else none:=by
 unfold E6
 rw [EH,aB0 _ size c xs lo hi l h hl hh hs]
theorem aB4:E6 size (.d (.sl (cM c xs))) none none bl k kw = if kM xs.length 0 (xs.length:Int) then k (.d (.sl (cM c (dX xs 0 (xs.length:Int))))) else none:=HD size c xs hs rfl rfl
theorem aB2 (kd:IntKind) (l:Int):E6 size (.d (.sl (cM c xs))) (some (.d (.int kd l))) none bl k kw = if kM xs.length l (xs.length:Int) then k (.d (.sl (cM c (dX xs l (xs.length:Int))))) else none:=HD size c xs hs rfl rfl
theorem aAs (kd:IntKind) (h:Int):E6 size (.d (.sl (cM c xs))) none (some (.d (.int kd h))) bl k kw = if kM xs.length 0 h then k (.d (.sl (cM c (dX xs 0 h)))) else none:=HD size c xs hs rfl rfl
theorem aCh (kd kd' : IntKind) (l h:Int):E6 size (.d (.sl (cM c xs))) (some (.d (.int kd l))) (some (.d (.int kd' h))) bl k kw = if kM xs.length l h then k (.d (.sl (cM c (dX xs l h)))) else none:=HD size c xs hs rfl rfl
end
def PJ (e size bytes d:Nat) (x y:V) (bl:List (Nat × Option aY)) (kw:V→List (Nat × Option aY)→Option β):Option β:=IG y bl fun new =>
 if sized size new = true then
   match x with
   | .nil=>fI bl d fun b=>s4 b (if new.length * bytes ≤ 140737488355328 then kw (.own d 0) [(d,some (.rows 0 e size new))] else none)
   | .own id ver=>fI bl id fun b=>match b with
    | some (.rows v e' size' rows)=>if ver = v ∧ e' = e ∧ size' = size ∧ (rows.length + new.length) * bytes ≤ 140737488355328 then kw (.own id (ver + 1)) [(id,some (.rows (ver + 1) e size (rows ++ new)))] else none
    | _=>none
   | _=>none
   else none
theorem YH (e size bytes:Nat) (x y:eM):wL T d (.append e size bytes x y) fr bl k kw = dU fr x fun a=>dU fr y fun b=>PJ e size bytes d a b bl kw:=by
 unfold wL dU PJ IG fI s4
 simp only [fP]
 generalize dL (lk fr .any) x = v
 cases kI (lk bl none) (dL (lk fr .any) y) with
 | none=>rfl
 | some new =>
  simp only [Option.bind_some]
  by_cases hs:sized size new = true
  ·rw [if_pos hs,if_pos hs]
   cases v with
   | nil =>
    simp only
    cases lk bl none d with
    | none =>
     simp only
     by_cases h:new.length * bytes ≤ 140737488355328
     ·rw [if_pos h,if_pos h]
     ·rw [if_neg h,if_neg h]
    | some b=>rfl
   | own id ver =>
    simp only
    generalize lk bl none id = b
    cases b with
    | none=>rfl
    | some b=>cases b with
     | rows v e' size' rows =>
      simp only
      by_cases h:ver = v ∧ e' = e ∧ size' = size ∧ (rows.length + new.length) * bytes ≤ 140737488355328
      ·rw [if_pos h,if_pos h]
      ·rw [if_neg h,if_neg h]
     | _=>rfl
   | _=>rfl
  ·rw [if_neg hs,if_neg hs]
def OS {α:Type} (e size bytes d:Nat) (x:V) (c:α→List D) (ys:List α) (bl:List (Nat × Option aY)) (kw:V→List (Nat × Option aY)→Option β):Option β:=match x with
   | .nil=>fI bl d fun b=>s4 b (if ys.length * bytes ≤ 140737488355328 then kw (.own d 0) [(d,some (.rows 0 e size (cM c ys)))] else none)
   | .own id ver=>fI bl id fun b=>match b with
    | some (.rows v e' size' rows)=>if ver = v ∧ e' = e ∧ size' = size ∧ (rows.length + ys.length) * bytes ≤ 140737488355328 then kw (.own id (ver + 1)) [(id,some (.rows (ver + 1) e size (rows ++ cM c ys)))] else none
    | _=>none
   | _=>none
theorem aB9 {α:Type} (e size bytes d:Nat) (x y:V) (c:α→List D) (ys:List α) (hy:∀ k' : List (List D)→Option β,IG y bl k' = k' (cM c ys)) (hs:sized size (cM c ys) = true):PJ e size bytes d x y bl kw = OS e size bytes d x c ys bl kw:=by
 unfold PJ OS
 rw [hy,if_pos hs,aH]
theorem SB {α:Type} (e size bytes d:Nat) (x:V) (c:α→List D) (ys:List α) (hs:sized size (cM c ys) = true):PJ e size bytes d x (.d (.sl (cM c ys))) bl kw = OS e size bytes d x c ys bl kw:=aB9 e size bytes d x _ c ys (fun _=>rfl) hs
def VB (e size bytes d:Nat) (x:V) (ver:Nat) (b:Option aY) (bl:List (Nat × Option aY)) (kw:V→List (Nat × Option aY)→Option β):Option β:=GP ver b fun new=>PJ e size bytes d x (.d (.sl new)) bl kw
theorem aEE (e size bytes d id ver:Nat) (x:V):PJ e size bytes d x (.own id ver) bl kw = fI bl id fun b=>VB e size bytes d x ver b bl kw:=by
 show PJ e size bytes d x (.own id ver) bl kw = GP ver (lk bl none id) fun new=>PJ e size bytes d x (.d (.sl new)) bl kw
 unfold PJ
 rw [QG]
 rfl
theorem VI {α:Type} (e size bytes d v e' s' : Nat) (x:V) (c:α→List D) (ys:List α) (hs:sized size (cM c ys) = true):VB e size bytes d x v (some (.rows v e' s' (cM c ys))) bl kw = OS e size bytes d x c ys bl kw:=by
 unfold VB
 rw [MI,SB _ _ _ _ _ _ _ hs]
theorem V5 {α:Type} (e size bytes d v:Nat) (x:V) (c:α→List D) (ys:List α) (hs:sized size (cM c ys) = true):VB e size bytes d x v (some (.froz v (cM c ys))) bl kw = OS e size bytes d x c ys bl kw:=by
 unfold VB
 rw [MA,SB _ _ _ _ _ _ _ hs]
theorem aCe {α:Type} (e size bytes d:Nat) (c:α→List D) (ys:List α):OS e size bytes d .nil c ys bl kw = fI bl d fun b=>s4 b (if ys.length * bytes ≤ 140737488355328 then kw (.own d 0) [(d,some (.rows 0 e size (cM c ys)))] else none):=rfl
def aDx {α:Type} (e size bytes id ver:Nat) (c:α→List D) (ys:List α) (b:Option aY) (kw:V→List (Nat × Option aY)→Option β):Option β:=match b with
    | some (.rows v e' size' rows)=>if ver = v ∧ e' = e ∧ size' = size ∧ (rows.length + ys.length) * bytes ≤ 140737488355328 then kw (.own id (ver + 1)) [(id,some (.rows (ver + 1) e size (rows ++ cM c ys)))] else none
    | _=>none
theorem aAz {α:Type} (e size bytes d id ver:Nat) (c:α→List D) (ys:List α):OS e size bytes d (.own id ver) c ys bl kw = fI bl id fun b=>aDx e size bytes id ver c ys b kw:=rfl
theorem WW {α:Type} (e size bytes id v:Nat) (c:α→List D) (xs ys:List α):aDx e size bytes id v c ys (some (.rows v e size (cM c xs))) kw = if (xs.length + ys.length) * bytes ≤ 140737488355328 then kw (.own id (v + 1)) [(id,some (.rows (v + 1) e size (cM c (xs ++ ys))))] else none:=by
 simp only [aDx,true_and,aH,aA1]
def O5 (e:Nat) (rows:List (List D)) (k:List (List D)→Option β):Option β:=k rows
def M0 (v:V) (bl:List (Nat × Option aY)) (k:List D→List (Nat × Option aY)→Option β):Option β:=match bY (m8 (lk bl none)) v.cells with
 | some row=>k row (yB (lk bl none) v)
 | none=>none
end
section
end
end
end Vm
end Go.Proofs.Ytfhebiceipgdmaa
