/- The small machine's code, read from the front: what is left to do stands in a continuation. Equations by which the small machine's code is read (they are named in the proofs that a program prints). The small machine, read from the front by rewriting at the head only: every value is looked up before it is used. -/
import Derived.Test.YtfhebiceipgdmaaVmD
set_option linter.unusedVariables false
set_option linter.unusedSimpArgs false
namespace Go.Proofs.Ytfhebiceipgdmaa
namespace Vm
open Go.RowKit
section
variable {β:Type}
noncomputable def cX (T:AC) (c:a8) (s:St) (k:Ex→St→Option β):Option β:=(ev T c s).bind fun p=>k p.1 p.2
noncomputable def sX (T:AC) (l:List bT) (s:St) (k:St→Option β):Option β:=(lG (call T) l s).bind k
noncomputable def aGO (T:AC) (l:List bT) (ps:List (Nat × Nat)) (s:St) (k:St→Option β):Option β:=(fZ (call T) l (some ps) s).bind k
def BQ (r:EO) (k:V→List (Nat × Option aX)→Option β):Option β:=match r with
 | some (v,wr)=>k v wr
 | none=>none
def FF (v:V) (x y:Option β):Option β:=match v with
 | .d (.bool b)=>if b = true then x else y
 | _=>none
def aEE (k1:St→Option β) (k:Ex→St→Option β):Ex→St→Option β
 | .normal,s=>k1 s
 | e,s=>k e s
def KD (id:Nat) (k:Ex→St→Option β):Ex→St→Option β
 | .exit id',s=>if id' = id then k .normal s else k (.exit id') s
 | e,s=>k e s
def P5 (m:tG) (k:Ex→St→Option β):Ex→St→Option β
 | .normal,s=>k .normal (m.app s)
 | e,s=>k e s
theorem uO {v v' : V} {x y:Option β} (h:v = v'):FF v x y = FF v' x y:=by rw [h]
theorem aAt (v:V) (wr:List (Nat × Option aX)) (k:V→List (Nat × Option aX)→Option β):BQ (some (v,wr)) k = k v wr:=rfl
theorem UM (b:Bool) (x y:Option β):FF (.d (.bool b)) x y = if b = true then x else y:=rfl
variable {T:AC} {k:Ex→St→Option β}
theorem aA1 (s:St):cX T .skip s k = k .normal s:=by unfold cX; rw [aEJ]; rfl
theorem aBq (id:Nat) (s:St):cX T (.exit id) s k = k (.exit id) s:=by unfold cX; rw [aFr]; rfl
theorem aEG (s:St):cX T .ret s k = k .ret s:=by unfold cX; rw [aHE]; rfl
theorem VB (l:List bT) (s:St):cX T (.region l none) s k = sX T l s (k .normal):=by
 unfold cX sX
 rw [ME]
 simp only [fZ]
 cases lG (call T) l s <;> rfl
theorem aCF (l:List bT) (ps:List (Nat × Nat)) (s:St):cX T (.region l (some ps)) s k = aGO T l ps s (k .normal):=by
 unfold cX aGO
 rw [ME]
 cases fZ (call T) l (some ps) s <;> rfl
theorem aHc (a b:a8) (s:St):cX T (.seq a b) s k = cX T a s (aEE (fun s'=>cX T b s' k) k):=by
 unfold cX
 rw [aI2]
 cases ev T a s with
 | none=>rfl
 | some r =>
  obtain ⟨e,s'⟩:=r
  cases e <;> rfl
theorem aBr (c:cY) (a b:a8) (s:St):cX T (.cond c a b) s k = FF (cQ s.get c) (cX T a s k) (cX T b s k):=by
 unfold cX
 rw [aE3]
 generalize cQ s.get c = v
 cases v with
 | d x=>cases x with
  | bool b=>cases b <;> rfl
  | _=>rfl
 | _=>rfl
theorem aAo (id:Nat) (a:a8) (s:St):cX T (.block id a) s k = cX T a s (KD id k):=by
 unfold cX
 rw [aDO]
 cases ev T a s with
 | none=>rfl
 | some r =>
  obtain ⟨e,s'⟩:=r
  cases e with
  | normal=>rfl
  | exit i =>
   simp only [Option.bind_some,KD]
   by_cases h:i = id
   ·simp [h]
   ·simp [h]
  | ret=>rfl
theorem aEH (m:tG) (a:a8) (s:St):cX T (.pre m a) s k = cX T a (m.app s) k:=rfl
theorem aBu (m:tG) (a:a8) (s:St):cX T (.post a m) s k = cX T a s (P5 m k):=by
 unfold cX
 rw [aGc]
 cases ev T a s with
 | none=>rfl
 | some r =>
  obtain ⟨e,s'⟩:=r
  cases e <;> rfl
theorem cC {S X:Type} {step:S→Option (S ⊕ X)} {c:a8} (enc:S→St) (out:X→Ex × St) (hout:∀ x s,out x ≠ (.normal,s))
  (h:∀ s,cX T c (enc s) (fun e s'=>some (e,s')) = dV enc out (step s)) (s:S) :
  cX T (.loop c) (enc s) k = (fY step s).bind fun x=>k (out x).1 (out x).2:=by
 unfold cX
 rw [aAN enc out hout (fun s=>by
  have:=h s
  unfold cX at this
  rw [← this]
  cases ev T c (enc s) <;> rfl) s]
 cases fY step s <;> rfl
theorem aIu (k1:St→Option β) (k:Ex→St→Option β) (s:St):aEE k1 k .normal s = k1 s:=rfl
theorem aHJ (k1:St→Option β) (k:Ex→St→Option β) (i:Nat) (s:St):aEE k1 k (.exit i) s = k (.exit i) s:=rfl
theorem aIP (k1:St→Option β) (k:Ex→St→Option β) (s:St):aEE k1 k .ret s = k .ret s:=rfl
theorem aAX (id:Nat) (k:Ex→St→Option β) (s:St):KD id k .normal s = k .normal s:=rfl
theorem aDf (id:Nat) (k:Ex→St→Option β) (i:Nat) (s:St):KD id k (.exit i) s = if i = id then k .normal s else k (.exit i) s:=rfl
theorem aBp (id:Nat) (k:Ex→St→Option β) (s:St):KD id k .ret s = k .ret s:=rfl
theorem aG2 (m:tG) (k:Ex→St→Option β) (s:St):P5 m k .normal s = k .normal (m.app s):=rfl
theorem aFY (m:tG) (k:Ex→St→Option β) (i:Nat) (s:St):P5 m k (.exit i) s = k (.exit i) s:=rfl
theorem aFb (m:tG) (k:Ex→St→Option β) (s:St):P5 m k .ret s = k .ret s:=rfl
theorem aBT (s:St) (k:St→Option β):sX T [] s k = k s:=rfl
theorem MM (d:Option Nat) (op:jA) (l:List bT) (s:St) (k:St→Option β) :
  sX T (⟨d,op,none⟩ :: l) s k = BQ (dW (call T) (d.getD 0) (cQ s.get) s.blk op) fun v wr=>sX T l (s.put d v wr) k:=by
 unfold sX BQ
 simp only [lG,qY,bT.wants,bT.site]
 cases dW (call T) (d.getD 0) (cQ s.get) s.blk op with
 | none=>rfl
 | some r=>rfl
noncomputable def kD (T:AC):List bT→St→List Fp→(St→List Fp→Option β)→Option β
 | [],s,fp,k=>k s fp
 | o :: l,s,fp,k=>match iJ (call T) o s with
  | some (s',p)=>kD T l s' (p :: fp) k
  | none=>none
theorem aBC (l:List bT) (s:St) (fp:List Fp) (k:St→List Fp→Option β):kD T l s fp k = (hJ (call T) l s).bind fun r=>k r.1 (r.2.reverse ++ fp):=by
 induction l generalizing s fp with
 | nil=>rfl
 | cons o l ih =>
  simp only [kD,hJ]
  cases iJ (call T) o s with
  | none=>rfl
  | some q =>
   obtain ⟨s',p⟩:=q
   simp only [ih]
   cases hJ (call T) l s' with
   | none=>rfl
   | some r=>obtain ⟨s'',ps⟩:=r; simp
def aEO (l:List bT) (ps:List (Nat × Nat)) (k:St→Option β) (s:St) (fp:List Fp):Option β:=if FU l fp.reverse ps = true then k s else none
theorem aGJ (l:List bT) (ps:List (Nat × Nat)) (s:St) (k:St→Option β):aGO T l ps s k = kD T l s [] (aEO l ps k):=by
 rw [aBC]
 unfold aGO
 simp only [fZ]
 cases hJ (call T) l s with
 | none=>rfl
 | some r =>
  obtain ⟨s',fp⟩:=r
  simp only [Option.bind_some,aEO,List.append_nil,List.reverse_reverse]
  cases h:FU l fp ps <;> simp
theorem JV (d:Option Nat) (op:jA) (l:List bT) (s:St) (fp:List Fp) (k:St→List Fp→Option β) :
  kD T (⟨d,op,none⟩ :: l) s fp k = BQ (dW (call T) (d.getD 0) (cQ s.get) s.blk op) fun v wr=>kD T l (s.put d v wr) (sZ ⟨d,op,none⟩ s.get s.blk wr :: fp) k:=by
 unfold BQ
 simp only [kD,iJ,bT.wants,bT.site]
 cases dW (call T) (d.getD 0) (cQ s.get) s.blk op with
 | none=>rfl
 | some r=>rfl
theorem CB (fr:List (Nat × V)) (bl:List (Nat × Option aX)) (t:Nat):St.get ⟨fr,bl⟩ t = lk fr .any t:=rfl
theorem aJF (live keep:List Nat) (p:Nat × Nat × Nat × Nat) (l:List (Nat × Nat × Nat × Nat)) (c:List (Nat × Nat × Nat × Nat × Nat)) (ft:List Nat) (fc:List (Nat × Nat)) (s:St):tG.app ⟨live,keep,p :: l,c,ft,fc⟩ s = tG.app ⟨live,keep,l,c,ft,fc⟩ (mkT p s):=rfl
theorem aJW (live keep:List Nat) (p:Nat × Nat × Nat × Nat × Nat) (c:List (Nat × Nat × Nat × Nat × Nat)) (ft:List Nat) (fc:List (Nat × Nat)) (s:St):tG.app ⟨live,keep,[],p :: c,ft,fc⟩ s = tG.app ⟨live,keep,[],c,ft,fc⟩ (mkC p s):=rfl
theorem aHP (live keep:List Nat) (p:Nat) (ft:List Nat) (fc:List (Nat × Nat)) (s:St):tG.app ⟨live,keep,[],[],p :: ft,fc⟩ s = tG.app ⟨live,keep,[],[],ft,fc⟩ (frT p s):=rfl
theorem aIc (live keep:List Nat) (p:Nat × Nat) (fc:List (Nat × Nat)) (s:St):tG.app ⟨live,keep,[],[],[],p :: fc⟩ s = tG.app ⟨live,keep,[],[],[],fc⟩ (frC p s):=rfl
end
end Vm
end Go.Proofs.Ytfhebiceipgdmaa
set_option linter.unusedVariables false
set_option linter.unusedSimpArgs false
namespace Go.Proofs.Ytfhebiceipgdmaa
namespace Vm
open Go.RowKit
def at? {α:Type} (xs:List α) (n:Int):Option α:=if 0 ≤ n then xs[n.toNat]? else none
def cI (n:Int):List D:=[.int .i64 n]
def cB (b:Bool):List D:=[.bool b]
def cS (s:ByteArray):List D:=[.str s]
def cK (k:IntKind) (n:Int):List D:=[.int k n]
def cD (row:List D):List D:=row
def cM {α:Type} (c:α→List D) (xs:List α):List (List D):=xs.map c
def cL {α:Type} (c:α→List D) (xs:List α):List D:=[.sl (cM c xs)]
def dB {α:Type} (xs:List α) (l h:Int):List α:=(xs.take h.toNat).drop l.toNat
def fW (n:Nat) (l h:Int):Prop:=0 ≤ l ∧ l ≤ h ∧ h.toNat ≤ n
instance (n:Nat) (l h:Int):Decidable (fW n l h):=inferInstanceAs (Decidable (_ ∧ _ ∧ _))
def sAt (s:ByteArray) (n:Int):Option Int:=if 0 ≤ n then s[n.toNat]?.map fun b=>(b.toNat:Int) else none
section
variable {β:Type} {T:AC} {site:Nat} {ev:cY→V} {bl:Nat→Option aX} (k:V→List (Nat × Option aX)→Option β)
def NP (size:Nat) (x i:V) (bl:Nat→Option aX):EO:=match i with
  | .d (.int _ n)=>match x with
   | .own id ver=>match bl id with
    | some (.rows v e sz rows)=>if ver = v ∧ sz = size ∧ 0 ≤ n ∧ n.toNat < rows.length then some (.orow id ver n.toNat 0,[]) else none
    | some (.froz v rows)=>if ver = v ∧ 0 ≤ n then match rows[n.toNat]? with
     | some row=>if row.length = size then some (.d (.ptr row 0),[]) else none
     | none=>none
     else none
    | _=>none
   | .d (.sl rows)=>if 0 ≤ n then match rows[n.toNat]? with
    | some row=>if row.length = size then some (.d (.ptr row 0),[]) else none
    | none=>none
    else none
   | _=>none
  | _=>none
theorem L5 (C:Nat→List D→Option D) (size:Nat) (x i:cY):dW C site ev bl (.indexAddr size x i) = NP size (ev x) (ev i) bl:=rfl
theorem aD4 {α:Type} (size:Nat) (c:α→List D) (xs:List α) (kd:IntKind) (n:Int) (bl:Nat→Option aX):BQ (NP size (.d (.sl (cM c xs))) (.d (.int kd n)) bl) k = (at? xs n).bind fun x=>if (c x).length = size then k (.d (.ptr (c x) 0)) [] else none:=by
 simp only [NP,at?,cM]
 by_cases h:0 ≤ n
 ·rw [if_pos h,if_pos h,List.getElem?_map]
  cases xs[n.toNat]? with
  | none=>rfl
  | some x =>
   simp only [Option.map_some,Option.bind_some]
   by_cases h2:(c x).length = size
   ·rw [if_pos h2,if_pos h2]; rfl
   ·rw [if_neg h2,if_neg h2]; rfl
 ·rw [if_neg h,if_neg h]; rfl
def aCK (size id ver:Nat) (n:Int) (b:Option aX):EO:=match b with
 | some (.rows v e sz rows)=>if ver = v ∧ sz = size ∧ 0 ≤ n ∧ n.toNat < rows.length then some (.orow id ver n.toNat 0,[]) else none
 | some (.froz v rows)=>if ver = v ∧ 0 ≤ n then match rows[n.toNat]? with
  | some row=>if row.length = size then some (.d (.ptr row 0),[]) else none
  | none=>none
  else none
 | _=>none
theorem Z6 (size id ver v e sz:Nat) (n:Int) (rows:List (List D)) (k:V→List (Nat × Option aX)→Option β):BQ (aCK size id ver n (some (.rows v e sz rows))) k = if ver = v then (if sz = size then (if 0 ≤ n ∧ n.toNat < rows.length then k (.orow id ver n.toNat 0) [] else none) else none) else none:=by
 simp only [aCK]
 by_cases h1:ver = v
 ·by_cases h2:sz = size
  ·by_cases h3:0 ≤ n ∧ n.toNat < rows.length
   ·rw [if_pos ⟨h1,h2,h3⟩,if_pos h1,if_pos h2,if_pos h3]; rfl
   ·rw [if_neg (fun q=>h3 q.2.2),if_pos h1,if_pos h2,if_neg h3]; rfl
  ·rw [if_neg (fun q=>h2 q.2.1),if_pos h1,if_neg h2]; rfl
 ·rw [if_neg (fun q=>h1 q.1),if_neg h1]; rfl
theorem Z1 {α:Type} (size id ver v:Nat) (n:Int) (c:α→List D) (xs:List α) (k:V→List (Nat × Option aX)→Option β):BQ (aCK size id ver n (some (.froz v (cM c xs)))) k = if ver = v then ((at? xs n).bind fun x=>if (c x).length = size then k (.d (.ptr (c x) 0)) [] else none) else none:=by
 simp only [aCK,at?,cM]
 by_cases h1:ver = v
 ·by_cases h:0 ≤ n
  ·rw [if_pos ⟨h1,h⟩,if_pos h1,if_pos h,List.getElem?_map]
   cases xs[n.toNat]? with
   | none=>rfl
   | some x =>
    simp only [Option.map_some,Option.bind_some]
    by_cases h2:(c x).length = size
    ·rw [if_pos h2,if_pos h2]; rfl
    ·rw [if_neg h2,if_neg h2]; rfl
  ·rw [if_neg (fun q=>h q.2),if_pos h1,if_neg h]; rfl
 ·rw [if_neg (fun q=>h1 q.1),if_neg h1]; rfl
def QX (size:Nat) (isAgg:Bool) (off:Nat) (row:List D):EO :=
 if isAgg then (if off + size ≤ row.length then some (.agg (((row.drop off).take size).map .d),[]) else none) else row[off]?.map fun v=>(.d v,[])
def W1 (size:Nat) (isAgg:Bool) (off:Nat) (b:Option aX):EO:=match b with
 | some (.box cs) =>
  if isAgg then (if off + size ≤ cs.length then some (.agg ((cs.drop off).take size),[]) else none)
  else cs[off]?.map fun v=>(v,[])
 | some (.fbox row)=>QX size isAgg off row
 | _=>none
def aCA (size:Nat) (isAgg:Bool) (ver i off:Nat) (b:Option aX):EO:=match b with
 | some (.rows v e sz rows)=>if ver = v then match rows[i]? with
  | some row=>QX size isAgg off row
  | none=>none
  else none
 | _=>none
def HS (size:Nat) (isAgg:Bool) (x:V) (bl:Nat→Option aX):EO:=match x with
 | .ptr id off=>W1 size isAgg off (bl id)
 | .d (.ptr row off)=>QX size isAgg off row
 | .orow id ver i off=>aCA size isAgg ver i off (bl id)
 | _=>none
theorem FA (C:Nat→List D→Option D) (size:Nat) (isAgg:Bool) (x:cY):dW C site ev bl (.load size isAgg x) = HS size isAgg (ev x) bl:=rfl
theorem YO (size:Nat) (isAgg:Bool) (id off:Nat) (bl:Nat→Option aX):HS size isAgg (.ptr id off) bl = W1 size isAgg off (bl id):=rfl
theorem aEa (size:Nat) (isAgg:Bool) (id ver i off:Nat) (bl:Nat→Option aX):HS size isAgg (.orow id ver i off) bl = aCA size isAgg ver i off (bl id):=rfl
theorem aD0 (size off:Nat) (cs:List V):W1 size true off (some (.box cs)) = if off + size ≤ cs.length then some (.agg ((cs.drop off).take size),[]) else none:=rfl
theorem aGd (size off:Nat) (cs:List V):W1 size false off (some (.box cs)) = cs[off]?.map fun v=>(v,[]):=rfl
def J0 (size ver i off id:Nat) (fz:List (Nat × Option aX)) (ds:Option (List D)) (b:Option aX):EO:=match b with
 | some (.rows w e sz rows)=>if ver = w then match rows[i]?,ds with
  | some row,some ds=>if ds.length = size ∧ off + size ≤ row.length ∧ wB id fz = true then some (.any,(id,some (.rows w e sz (rows.set i (gK row off ds)))) :: fz) else none
  | _,_=>none
  else none
 | _=>none
def VP (size off id:Nat) (v:V) (b:Option aX):EO:=match b with
 | some (.box cs)=>if v.cells.length = size ∧ off + size ≤ cs.length ∧ v.known = true then some (.any,[(id,some (.box (gK cs off v.cells)))]) else none
 | _=>none
def SR (size:Nat) (x v:V) (bl:Nat→Option aX):EO:=match x with
 | .ptr id off=>VP size off id v (bl id)
 | .orow id ver i off=>J0 size ver i off id (sC bl v) (bI (j9 bl) v.cells) (bl id)
 | _=>none
theorem XW (C:Nat→List D→Option D) (size:Nat) (x v:cY):dW C site ev bl (.store size x v) = SR size (ev x) (ev v) bl:=rfl
theorem aBh (size id off:Nat) (v:V) (bl:Nat→Option aX):SR size (.ptr id off) v bl = VP size off id v (bl id):=rfl
theorem aCj (size id ver i off:Nat) (v:V) (bl:Nat→Option aX):SR size (.orow id ver i off) v bl = J0 size ver i off id (sC bl v) (bI (j9 bl) v.cells) (bl id):=rfl
theorem TS (size off id:Nat) (v:V) (cs:List V):VP size off id v (some (.box cs)) = if v.cells.length = size ∧ off + size ≤ cs.length ∧ v.known = true then some (.any,[(id,some (.box (gK cs off v.cells)))]) else none:=rfl
theorem XM (C:Nat→List D→Option D) (size:Nat) (x:cY) (lo hi:Option cY):dW C site ev bl (.slice size x lo hi) = rW bl size (ev x) (lo.map ev) (hi.map ev):=rfl
def aBv (ver:Nat) (b:Option aX):Option (List (List D)):=match b with
 | some (.rows v _ _ rows)=>if ver = v then some rows else none
 | some (.froz v rows)=>if ver = v then some rows else none
 | _=>none
def yG (v:Option V) (d:Int):Option Int:=match v with
 | none=>some d
 | some (.d (.int _ h))=>some h
 | _=>none
theorem YW {α:Type} (size:Nat) (c:α→List D) (xs:List α) (lo hi:Option V) (l h:Int) (hl:yG lo 0 = some l) (hh:yG hi (xs.length:Int) = some h) (hs:sized size (cM c xs) = true) (bl:Nat→Option aX):BQ (rW bl size (.d (.sl (cM c xs))) lo hi) k = if fW xs.length l h then k (.d (.sl (cM c (dB xs l h)))) [] else none:=by
 have e0:∀ lo' hi',rW bl size (.d (.sl (cM c xs))) lo' hi' = (match yG hi' ((cM c xs).length:Int),yG lo' 0 with
   | some h,some l=>if 0 ≤ l ∧ l ≤ h ∧ h.toNat ≤ (cM c xs).length ∧ sized size (cM c xs) = true then some (.d (.sl (((cM c xs).take h.toNat).drop l.toNat)),[]) else none
   | _,_=>none):=fun lo' hi'=>rfl
 rw [e0,show ((cM c xs).length:Int) = (xs.length:Int) by simp [cM],hl,hh]
 simp only [show (cM c xs).length = xs.length by simp [cM]]
 by_cases q:fW xs.length l h
 ·rw [if_pos q,if_pos ⟨q.1,q.2.1,q.2.2,hs⟩]
  simp only [aAt,cM,dB,List.map_drop,List.map_take]
 ·rw [if_neg q,if_neg (fun w=>q ⟨w.1,w.2.1,w.2.2.1⟩)]; rfl
def CC (x i:V):EO:=match x,i with
  | .d (.str s),.d (.int _ n)=>if 0 ≤ n then match s[n.toNat]? with
   | some b=>some (.d (.int .u8 b.toNat),[])
   | none=>none
   else none
  | _,_=>none
theorem ZZ (C:Nat→List D→Option D) (x i:cY):dW C site ev bl (.index x i) = CC (ev x) (ev i):=rfl
theorem aCc (s:ByteArray) (kd:IntKind) (n:Int):BQ (CC (.d (.str s)) (.d (.int kd n))) k = (sAt s n).bind fun b=>k (.d (.int .u8 b)) []:=by
 simp only [CC,sAt]
 split
 ·cases s[n.toNat]? <;> rfl
 ·rfl
end
section
variable {S X:Type} {enc:S→St} {out:X→Ex × St}
theorem aK (c:Prop) [Decidable c] (a b:Option (S ⊕ X)):dV enc out (if c then a else b) = if c then dV enc out a else dV enc out b:=by split <;> rfl
theorem aD {α:Type} (o:Option α) (f:α→Option (S ⊕ X)):dV enc out (o.bind f) = o.bind fun x=>dV enc out (f x):=by cases o <;> rfl
theorem aF:dV enc out none = none:=rfl
theorem aI (s:S):dV enc out (some (.inl s)) = some (.normal,enc s):=rfl
theorem aL (x:X):dV enc out (some (.inr x)) = some (out x):=rfl
end
theorem fA {α:Type} (size:Nat) (c:α→List D) (hc:∀ x,(c x).length = size) (xs:List α):sized size (cM c xs) = true:=by
 simp [sized,cM,hc]
theorem aV (xs:List Int):sized 1 (cM cI xs) = true:=fA _ _ (fun x=>by rfl) xs
theorem aQ (k:IntKind) (xs:List Int):sized 1 (cM (cK k) xs) = true:=fA _ _ (fun x=>by rfl) xs
theorem aS (xs:List Bool):sized 1 (cM cB xs) = true:=fA _ _ (fun x=>by rfl) xs
theorem aR (xs:List ByteArray):sized 1 (cM cS xs) = true:=fA _ _ (fun x=>by rfl) xs
theorem aW {α:Type} (c:α→List D) (xs:List (List α)):sized 1 (cM (cL c) xs) = true:=fA _ _ (fun x=>by rfl) xs
theorem aH {α:Type} (c:α→List D) (xs:List α):(cM c xs).length = xs.length:=by simp [cM]
theorem XJ {α:Type} (c:α→List D) (xs ys:List α):cM c xs ++ cM c ys = cM c (xs ++ ys):=by simp [cM]
theorem aII {α:Type} (c:α→List D) (xs:List α) (i:Nat) (x:α):cM c (xs.set i x) = (cM c xs).set i (c x):=by simp [cM,List.map_set]
theorem NR {α:Type} (c:α→List D) (n:Nat) (x:α):cM c (List.replicate n x) = List.replicate n (c x):=by simp [cM]
theorem aT {α γ:Type} (c:Prop) [Decidable c] (a b:Option α) (f:α→Option γ):(if c then a else b).bind f = if c then a.bind f else b.bind f:=by split <;> rfl
theorem a9 {α γ:Type} (c:Prop) [Decidable c] (a b:Option α) (f:α→γ):(if c then a else b).map f = if c then a.map f else b.map f:=by split <;> rfl
theorem bind_map {α γ δ:Type} (o:Option α) (f:α→Option γ) (g:γ→δ):(o.bind f).map g = o.bind fun x=>(f x).map g:=by cases o <;> rfl
theorem aM {α γ:Type} (f:α→Option γ):(none:Option α).bind f = none:=rfl
theorem aJ {α γ δ ε:Type} (f:α→Option δ) (g:γ→Option δ) (x:α ⊕ γ) (h:δ→Option ε):(Sum.elim f g x).bind h = Sum.elim (fun y=>(f y).bind h) (fun y=>(g y).bind h) x:=by cases x <;> rfl
theorem aU {α γ δ ε:Type} (f:α→Option δ) (g:γ→Option δ) (x:α ⊕ γ) (h:δ→ε):(Sum.elim f g x).map h = Sum.elim (fun y=>(f y).map h) (fun y=>(g y).map h) x:=by cases x <;> rfl
def gIf {α:Type} (b:Bool) (x y:α):α:=if b = true then x else y
theorem bF {α:Type} (b:Bool) (x y:α):gIf b x y = if b = true then x else y:=rfl
theorem aG {S X α γ:Type} {enc:S→St} {out:X→Ex × St} (f:α→Option (S ⊕ X)) (g:γ→Option (S ⊕ X)) (x:α ⊕ γ):dV enc out (Sum.elim f g x) = Sum.elim (fun y=>dV enc out (f y)) (fun y=>dV enc out (g y)) x:=by cases x <;> rfl
def aLq (sf:dJ):Ex→St→Option D
 | .normal,s=>BX sf s
 | .ret,s=>BX sf s
 | .exit _,_=>none
theorem aAZ {T:AC} {f:Nat} {sf:dJ} (hf:T f = some (.code sf)) (ds:List D) (hl:ds.length = sf.np) (hlt:lF 0 ds = none):Vm.call T f ds = cX T sf.body ⟨m8 0 ds,[]⟩ (aLq sf):=by
 rw [aEV hf ds hl hlt]
 unfold cX
 cases Vm.ev T sf.body ⟨m8 0 ds,[]⟩ with
 | none=>rfl
 | some q =>
  obtain ⟨e,s⟩:=q
  cases e <;> rfl
theorem bQ {α β:Type} (o:Option α) {f g:α→Option β} (h:∀ x,f x = g x):o.bind f = o.bind g:=by rw [funext h]
end Vm
end Go.Proofs.Ytfhebiceipgdmaa
set_option linter.unusedVariables false
set_option linter.unusedSimpArgs false
namespace Go.Proofs.Ytfhebiceipgdmaa
namespace Vm
open Go.RowKit
section
variable {β:Type}
def mK (fr:List (Nat × V)) (t:Nat) (k:V→Option β):Option β:=k (lk fr .any t)
def eD (bl:List (Nat × Option aX)) (i:Nat) (k:Option aX→Option β):Option β:=k (lk bl none i)
def dH (fr:List (Nat × V)) (o:cY) (k:V→Option β):Option β:=k (cQ (lk fr .any) o)
theorem aCU (t:Nat) (v:V) (fr:List (Nat × V)) (k:V→Option β):mK ((t,v) :: fr) t k = k v:=by simp [mK,lk]
theorem ZT (a t:Nat) (v:V) (fr:List (Nat × V)) (k:V→Option β) (h:(t == a) = false):mK ((a,v) :: fr) t k = mK fr t k:=by
 have:¬ t = a:=by simpa using h
 simp [mK,lk,this]
theorem aCV (t:Nat) (k:V→Option β):mK [] t k = k .any:=rfl
theorem aBH (t:Nat) (v:Option aX) (fr:List (Nat × Option aX)) (k:Option aX→Option β):eD ((t,v) :: fr) t k = k v:=by simp [eD,lk]
theorem X3 (a t:Nat) (v:Option aX) (fr:List (Nat × Option aX)) (k:Option aX→Option β) (h:(t == a) = false):eD ((a,v) :: fr) t k = eD fr t k:=by
 have:¬ t = a:=by simpa using h
 simp [eD,lk,this]
theorem aBR (t:Nat) (k:Option aX→Option β):eD [] t k = k none:=rfl
theorem aGB (bl:List (Nat × Option aX)) (t:Nat) (k:Option aX→Option β):eD ([] ++ bl) t k = eD bl t k:=rfl
theorem aFD (p:Nat × Option aX) (w bl:List (Nat × Option aX)) (t:Nat) (k:Option aX→Option β):eD ((p :: w) ++ bl) t k = eD (p :: (w ++ bl)) t k:=rfl
theorem aIb (fr:List (Nat × V)) (t:Nat) (k:V→Option β):dH fr (.t t) k = mK fr t k:=rfl
theorem aIf (fr:List (Nat × V)) (v:V) (k:V→Option β):dH fr (.c v) k = k v:=rfl
def aC (ds:List D):List V:=ds.map .d
def cW (ds:List D):V:=.agg (aC ds)
noncomputable def sE (T:AC) (d:Nat) (op:jA) (fr:List (Nat × V)) (bl:List (Nat × Option aX)) (k:V→Option β) (kw:V→List (Nat × Option aX)→Option β):Option β :=
 match dW (call T) d (cQ (lk fr .any)) (lk bl none) op with
 | none=>none
 | some (v,[])=>k v
 | some (v,p :: wr)=>kw v (p :: wr)
theorem XZ {T:AC} (d:Nat) (op:jA) (l:List bT) (fr:List (Nat × V)) (bl:List (Nat × Option aX)) (k:St→Option β) :
  sX T (⟨some d,op,none⟩ :: l) ⟨fr,bl⟩ k = sE T d op fr bl (fun v=>sX T l ⟨(d,v) :: fr,bl⟩ k) (fun v wr=>sX T l ⟨(d,v) :: fr,wr ++ bl⟩ k):=by
 rw [MM]
 unfold sE BQ
 show (match dW (call T) d (cQ (lk fr .any)) (lk bl none) op with | some (v,wr)=>_ | none=>none) = _
 cases dW (call T) d (cQ (lk fr .any)) (lk bl none) op with
 | none=>rfl
 | some r=>obtain ⟨v,wr⟩:=r; cases wr <;> rfl
theorem SW {T:AC} (op:jA) (l:List bT) (fr:List (Nat × V)) (bl:List (Nat × Option aX)) (k:St→Option β) :
  sX T (⟨none,op,none⟩ :: l) ⟨fr,bl⟩ k = sE T 0 op fr bl (fun _=>sX T l ⟨fr,bl⟩ k) (fun _ wr=>sX T l ⟨fr,wr ++ bl⟩ k):=by
 rw [MM]
 unfold sE BQ
 show (match dW (call T) 0 (cQ (lk fr .any)) (lk bl none) op with | some (v,wr)=>_ | none=>none) = _
 cases dW (call T) 0 (cQ (lk fr .any)) (lk bl none) op with
 | none=>rfl
 | some r=>obtain ⟨v,wr⟩:=r; cases wr <;> rfl
def bP (t:Nat) (b:Bool) (op:jA):jA:=match op with
 | .pick (.t t') x y=>if t' = t then .move (if b then x else y) else op
 | op=>op
def bO (t:Nat) (b:Bool) (o:bT):bT:=match o.guard with
 | some (t',w)=>if t' = t then (if w = b then ⟨o.dst,bP t b o.op,none⟩ else ⟨o.dst,.move (.c (.tup [])),none⟩) else ⟨o.dst,bP t b o.op,some (t',w)⟩
 | none=>⟨o.dst,bP t b o.op,none⟩
def bL (t:Nat) (b:Bool):List bT→List bT
 | []=>[]
 | o :: l=>bO t b o :: (if o.dst = some t then l else bL t b l)
theorem vU {C:Nat→List D→Option D} {site:Nat} {fr:Nat→V} {bl:Nat→Option aX} {t:Nat} {b:Bool} (h:fr t = .d (.bool b)) (op:jA):dW C site (cQ fr) bl (bP t b op) = dW C site (cQ fr) bl op:=by
 cases op with
 | pick c x y =>
  cases c with
  | t t' =>
   simp only [bP]
   split
   ·rename_i e
    subst e
    simp only [dW,cQ,h]
    cases b <;> rfl
   ·rfl
  | c v=>rfl
 | _=>rfl
theorem XC {C:Nat→List D→Option D} {s:St} {t:Nat} {b:Bool} (h:s.get t = .d (.bool b)) (o:bT):qY C (bO t b o) s = qY C o s:=by
 obtain ⟨d,op,g⟩:=o
 cases g with
 | some g =>
  obtain ⟨t',w⟩:=g
  simp only [bO]
  split
  ·rename_i e
   subst e
   split
   ·rename_i e
    subst e
    simp only [qY,bT.wants,h,bT.site,vU h]
    cases w <;> rfl
   ·rename_i e
    simp only [qY,bT.wants,h,bT.site,dW,cQ]
    cases w <;> cases b <;> simp_all [tZ]
  ·simp only [qY,bT.wants,bT.site,vU h]
 | none=>simp only [bO,qY,bT.wants,bT.site,vU h]
theorem A8 {s:St} {d:Option Nat} {v:V} {wr:List (Nat × Option aX)} {t:Nat} (h:¬ d = some t):(s.put d v wr).get t = s.get t:=by
 cases d with
 | none=>rfl
 | some a =>
  show lk ((a,v) :: s.fr) .any t = lk s.fr .any t
  have:¬ t = a:=fun e=>h (by rw [e])
  simp [lk,this]
theorem XG {C:Nat→List D→Option D} {o:bT} {s s' : St} {t:Nat} (h:¬ o.dst = some t) (e:qY C o s = some s'):s'.get t = s.get t:=by
 unfold qY at e
 split at e
 ·split at e
  ·cases e; exact A8 h
  ·cases e
 ·cases e; exact A8 h
 ·cases e
theorem HH {C:Nat→List D→Option D} {t:Nat} {b:Bool}:∀ (l:List bT) {s:St} (h:s.get t = .d (.bool b)),lG C (bL t b l) s = lG C l s
 | [],s,h=>rfl
 | o :: l,s,h=>by
  simp only [bL,lG,XC h]
  cases e:qY C o s with
  | none=>rfl
  | some s' =>
   simp only
   split
   ·rfl
   ·rename_i hd
    exact HH l (by rw [XG hd e]; exact h)
noncomputable def D9 (T:AC) (v:V) (t:Nat) (l:List bT) (s:St) (k:St→Option β):Option β:=match v with
 | .d (.bool b)=>if b = true then sX T (bL t true l) s k else sX T (bL t false l) s k
 | .tup []=>match l with
  | o :: r=>sX T r (s.put o.dst (.tup []) []) k
  | []=>none
 | _=>none
theorem VQ {T:AC} (d:Option Nat) (op:jA) (t:Nat) (w:Bool) (l:List bT) (fr:List (Nat × V)) (bl:List (Nat × Option aX)) (k:St→Option β) :
  sX T (⟨d,op,some (t,w)⟩ :: l) ⟨fr,bl⟩ k = mK fr t fun v=>D9 T v t (⟨d,op,some (t,w)⟩ :: l) ⟨fr,bl⟩ k:=by
 show _ = D9 T (lk fr .any t) t _ _ k
 generalize hv:lk fr .any t = v
 have bad:∀ (q:tZ v w = .bad),sX T (⟨d,op,some (t,w)⟩ :: l) ⟨fr,bl⟩ k = none:=by
  intro q
  unfold sX
  simp only [lG,qY,bT.wants]
  rw [show (St.get ⟨fr,bl⟩ t) = v from hv,q]; rfl
 cases v with
 | d x =>
  cases x with
  | bool b =>
   simp only [D9]
   cases b with
   | true=>rw [if_pos rfl]; unfold sX; rw [HH (t:=t) (b:=true) (s:=⟨fr,bl⟩) _ hv]
   | false=>rw [if_neg (by decide)]; unfold sX; rw [HH (t:=t) (b:=false) (s:=⟨fr,bl⟩) _ hv]
  | _=>exact bad rfl
 | tup vs =>
  cases vs with
  | nil =>
   simp only [D9]
   unfold sX
   simp only [lG,qY,bT.wants]
   rw [show (St.get ⟨fr,bl⟩ t) = _ from hv]
   rfl
  | cons x l=>exact bad rfl
 | _=>exact bad rfl
theorem aDH {T:AC} (b:Bool) (t:Nat) (l:List bT) (s:St) (k:St→Option β):D9 T (.d (.bool b)) t l s k = if b = true then sX T (bL t true l) s k else sX T (bL t false l) s k:=rfl
theorem aCS {T:AC} (t d:Nat) (op:jA) (g:Option (Nat × Bool)) (l:List bT) (fr:List (Nat × V)) (bl:List (Nat × Option aX)) (k:St→Option β):D9 T (.tup []) t (⟨some d,op,g⟩ :: l) ⟨fr,bl⟩ k = sX T l ⟨(d,.tup []) :: fr,bl⟩ k:=rfl
theorem aAA {T:AC} (t:Nat) (op:jA) (g:Option (Nat × Bool)) (l:List bT) (fr:List (Nat × V)) (bl:List (Nat × Option aX)) (k:St→Option β):D9 T (.tup []) t (⟨none,op,g⟩ :: l) ⟨fr,bl⟩ k = sX T l ⟨fr,bl⟩ k:=rfl
theorem wG {T:AC} {l l' : List bT} {s:St} {k:St→Option β} (h:l = l'):sX T l s k = sX T l' s k:=by rw [h]
section
variable {T:AC} {d:Nat} {fr:List (Nat × V)} {bl:List (Nat × Option aX)} {k:V→Option β} {kw:V→List (Nat × Option aX)→Option β}
def DC (r:EO) (k:V→Option β) (kw:V→List (Nat × Option aX)→Option β):Option β:=match r with
 | none=>none
 | some (v,[])=>k v
 | some (v,p :: wr)=>kw v (p :: wr)
theorem JC (o:Option D):DC (EO.v o) k kw = o.bind fun x=>k (.d x):=by cases o <;> rfl
theorem aDX:sE T d .fail fr bl k kw = none:=rfl
theorem aDx (x:cY):sE T d (.move x) fr bl k kw = dH fr x k:=rfl
theorem aCn (c a b:cY):sE T d (.pick c a b) fr bl k kw = dH fr c fun v=>FF v (dH fr a k) (dH fr b k):=by
 unfold sE dH FF
 simp only [dW]
 generalize cQ (lk fr .any) c = v
 cases v with
 | d x=>cases x with
  | bool b=>cases b <;> rfl
  | _=>rfl
 | _=>rfl
theorem aG4 (x y:Option β):FF (.d (.bool true)) x y = x:=rfl
theorem aEi (x y:Option β):FF (.d (.bool false)) x y = y:=rfl
def vC (b:Option aX) (x:Option β):Option β:=match b with
 | none=>x
 | some _=>none
theorem aFw (x:Option β):vC none x = x:=rfl
theorem aFk (b:aX) (x:Option β):vC (some b) x = none:=rfl
theorem ZA (z:List V):sE T d (.alloc z) fr bl k kw = eD bl d fun b=>vC b (kw (.ptr d 0) [(d,some (.box z))]):=by
 unfold sE eD vC
 simp only [dW]
 cases lk bl none d <;> rfl
def sW (v:V) (k:List V→Option β):Option β:=if v.known = true then k v.cells else none
theorem aDy (x:D) (k:List V→Option β):sW (.d x) k = k [.d x]:=rfl
theorem S9 (k:List V→Option β):sW .nil k = k [.nil]:=rfl
theorem VF (cs:List V) (k:List V→Option β):sW (.agg cs) k = k cs:=rfl
theorem O6 (ds:List D) (k:List V→Option β):sW (cW ds) k = k (aC ds):=rfl
theorem T9 (i o:Nat) (k:List V→Option β):sW (.ptr i o) k = k [.ptr i o]:=rfl
theorem VK (i o:Nat) (k:List V→Option β):sW (.own i o) k = k [.own i o]:=rfl
theorem QU (i v j o:Nat) (k:List V→Option β):sW (.orow i v j o) k = k [.orow i v j o]:=rfl
theorem TZ (k:List V→Option β):sW .any k = none:=rfl
theorem aGg (x:cY):sE T d (.box x) fr bl k kw = eD bl d fun b=>vC b (dH fr x fun v=>sW v fun cs=>kw (.ptr d 0) [(d,some (.box cs))]):=by
 unfold sE eD vC dH sW
 simp only [dW]
 cases lk bl none d with
 | none =>
  simp only
  by_cases h:(cQ (lk fr .any) x).known = true
  ·rw [if_pos h,if_pos h]
  ·rw [if_neg h,if_neg h]
 | some b=>rfl
def HW (fr:List (Nat × V)):List cY→(List V→Option β)→Option β
 | [],k=>k []
 | x :: l,k=>dH fr x fun v=>HW fr l fun vs=>k (v :: vs)
theorem O4 (l:List cY) (k:List V→Option β):HW fr l k = k (l.map (cQ (lk fr .any))):=by
 induction l generalizing k with
 | nil=>rfl
 | cons x l ih=>simp only [HW,dH,ih,List.map_cons]
theorem YM (k:List V→Option β):HW fr [] k = k []:=rfl
theorem R5 (x:cY) (l:List cY) (k:List V→Option β):HW fr (x :: l) k = dH fr x fun v=>HW fr l fun vs=>k (v :: vs):=rfl
def EJ (fr:List (Nat × V)):List (Nat × Nat × cY)→(List (Nat × Nat × V)→Option β)→Option β
 | [],k=>k []
 | (o,s,x) :: l,k=>dH fr x fun v=>EJ fr l fun vs=>k ((o,s,v) :: vs)
theorem jB (op:jA):sE T d op fr bl k kw = DC (dW (call T) d (cQ (lk fr .any)) (lk bl none) op) k kw:=by
 unfold sE DC
 cases dW (call T) d (cQ (lk fr .any)) (lk bl none) op with
 | none=>rfl
 | some r=>obtain ⟨v,wr⟩:=r; cases wr <;> rfl
theorem yP (r:EO):DC r k kw = BQ r fun v wr=>match wr with | []=>k v | p :: w=>kw v (p :: w):=by
 cases r with
 | none=>rfl
 | some r=>obtain ⟨v,wr⟩:=r; cases wr <;> rfl
def xV:List V→Nat→(V→Option β)→Option β
 | [],_,_=>none
 | c :: _,0,k=>k c
 | _ :: cs,n + 1,k=>xV cs n k
theorem FK (cs:List V) (n:Nat) (k:V→Option β):xV cs n k = cs[n]?.bind k:=by
 induction cs generalizing n with
 | nil=>rfl
 | cons c cs ih=>cases n with
  | zero=>rfl
  | succ n=>simp only [xV,ih,List.getElem?_cons_succ]
theorem aE8 (c:V) (cs:List V) (k:V→Option β):xV (c :: cs) 0 k = k c:=rfl
theorem aGi (c:V) (cs:List V) (n:Nat) (k:V→Option β):xV (c :: cs) (n + 1) k = xV cs n k:=rfl
def bK (ds:List D) (n:Nat) (k:D→Option β):Option β:=ds[n]?.bind k
def iG (ds:List D) (off size:Nat) (k:List D→Option β):Option β:=if off + size ≤ ds.length then k ((ds.drop off).take size) else none
def qP (cs:List V) (off size:Nat) (k:List V→Option β):Option β:=if off + size ≤ cs.length then k ((cs.drop off).take size) else none
theorem VT (ds:List D) (n:Nat) (k:V→Option β):xV (aC ds) n k = bK ds n fun x=>k (.d x):=by
 rw [FK]
 unfold aC bK
 rw [List.getElem?_map]
 cases ds[n]? <;> rfl
theorem YE (cs:List V) (n:Nat) (k:List V→Option β) (h:cs.length = n):qP cs 0 n k = k cs:=by
 subst h
 simp [qP]
theorem SF (c:V) (cs:List V) (off n:Nat) (k:List V→Option β):qP (c :: cs) (off + 1) n k = qP cs off n k:=by
 unfold qP
 simp only [List.length_cons,List.drop_succ_cons]
 by_cases h:off + n ≤ cs.length
 ·rw [if_pos h,if_pos (by omega)]
 ·rw [if_neg h,if_neg (by omega)]
theorem S7 (c:V) (cs:List V) (n:Nat) (k:List V→Option β):qP (c :: cs) 0 (n + 1) k = qP cs 0 n fun l=>k (c :: l):=by
 unfold qP
 simp only [List.length_cons,List.drop_zero,List.take_succ_cons]
 by_cases h:0 + n ≤ cs.length
 ·rw [if_pos h,if_pos (by omega)]
 ·rw [if_neg h,if_neg (by omega)]
theorem VR (cs:List V) (k:List V→Option β):qP cs 0 0 k = k []:=by simp [qP]
theorem ON (ds:List D) (off n:Nat) (k:List V→Option β):qP (aC ds) off n k = iG ds off n fun l=>k (aC l):=by
 unfold qP iG aC
 simp only [List.length_map,List.map_take,List.map_drop]
def A1 (size:Nat) (isAgg:Bool) (off:Nat) (b:Option aX) (k:V→Option β):Option β:=match b with
 | some (.box cs)=>if isAgg = true then qP cs off size fun l=>k (.agg l) else xV cs off k
 | some (.fbox row)=>if isAgg = true then iG row off size fun l=>k (cW l) else bK row off fun x=>k (.d x)
 | _=>none
def K6 (size:Nat) (isAgg:Bool) (ver i off:Nat) (b:Option aX) (k:V→Option β):Option β:=match b with
 | some (.rows v e sz rows)=>if ver = v then rows[i]?.bind fun row=>(if isAgg = true then iG row off size fun l=>k (cW l) else bK row off fun x=>k (.d x)) else none
 | _=>none
def wT (size:Nat) (isAgg:Bool) (x:V) (bl:List (Nat × Option aX)) (k:V→Option β):Option β:=match x with
 | .ptr id off=>eD bl id fun b=>A1 size isAgg off b k
 | .d (.ptr row off)=>if isAgg = true then iG row off size fun l=>k (cW l) else bK row off fun x=>k (.d x)
 | .orow id ver i off=>eD bl id fun b=>K6 size isAgg ver i off b k
 | _=>none
theorem RR (size:Nat) (isAgg:Bool) (x:cY):sE T d (.load size isAgg x) fr bl k kw = dH fr x fun v=>wT size isAgg v bl k:=by
 rw [jB,FA]
 unfold dH
 generalize cQ (lk fr .any) x = v
 have hD:∀ row off,DC (QX size isAgg off row) k kw = if isAgg = true then iG row off size fun l=>k (cW l) else bK row off fun x=>k (.d x):=by
  intro row off
  unfold QX
  cases isAgg with
  | true=>simp only [if_true,iG]; split <;> rfl
  | false=>simp only [Bool.false_eq_true,if_false,bK]; cases row[off]? <;> rfl
 cases v with
 | ptr id off =>
  rw [YO]
  simp only [wT,eD]
  generalize lk bl none id = b
  cases b with
  | none=>rfl
  | some b=>cases b with
   | box cs =>
    cases isAgg with
    | true=>simp only [aD0,A1,if_true,qP]; split <;> rfl
    | false=>simp only [aGd,A1,Bool.false_eq_true,if_false,FK]; cases cs[off]? <;> rfl
   | fbox row=>exact hD row off
   | _=>rfl
 | d x=>cases x with
  | ptr row off=>exact hD row off
  | _=>rfl
 | orow id ver i off =>
  rw [aEa]
  simp only [wT,eD]
  generalize lk bl none id = b
  cases b with
  | none=>rfl
  | some b=>cases b with
   | rows v e sz rows =>
    simp only [aCA,K6]
    split
    ·cases rows[i]? with
     | none=>rfl
     | some row=>exact hD row off
    ·rfl
   | _=>rfl
 | _=>rfl
theorem ZJ (size:Nat) (isAgg:Bool) (id off:Nat):wT size isAgg (.ptr id off) bl k = eD bl id fun b=>A1 size isAgg off b k:=rfl
theorem aCM (size:Nat) (row:List D) (off:Nat):wT size true (.d (.ptr row off)) bl k = iG row off size fun l=>k (cW l):=rfl
theorem aBz (size:Nat) (row:List D) (off:Nat):wT size false (.d (.ptr row off)) bl k = bK row off fun x=>k (.d x):=rfl
theorem aGo (size:Nat) (isAgg:Bool) (id ver i off:Nat):wT size isAgg (.orow id ver i off) bl k = eD bl id fun b=>K6 size isAgg ver i off b k:=rfl
theorem aAJ (size off:Nat) (row:List D):A1 size true off (some (.fbox row)) k = iG row off size fun l=>k (cW l):=rfl
theorem XV (size off:Nat) (row:List D):A1 size false off (some (.fbox row)) k = bK row off fun x=>k (.d x):=rfl
theorem aAY (size off:Nat) (cs:List V):A1 size false off (some (.box cs)) k = xV cs off k:=rfl
theorem aCa (size off:Nat) (c:V) (cs:List V):A1 size true off (some (.box (c :: cs))) k = qP (c :: cs) off size fun l=>k (.agg l):=rfl
theorem aBO (size off:Nat) (ds:List D):A1 size true off (some (.box (aC ds))) k = iG ds off size fun l=>k (cW l):=by
 show qP (aC ds) off size (fun l=>k (.agg l)) = _
 rw [ON]; rfl
theorem RF {α:Type} (size:Nat) (isAgg:Bool) (v i off e sz:Nat) (c:α→List D) (xs:List α):K6 size isAgg v i off (some (.rows v e sz (cM c xs))) k = xs[i]?.bind fun x=>wT size isAgg (.d (.ptr (c x) off)) [] k:=by
 simp only [K6,if_true,cM,List.getElem?_map]
 cases xs[i]? <;> rfl
def vZ:List V→Nat→V→(List V→Option β)→Option β
 | [],_,_,_=>none
 | _ :: cs,0,v,k=>k (v :: cs)
 | c :: cs,n + 1,v,k=>vZ cs n v fun l=>k (c :: l)
theorem O1 (cs:List V) (n:Nat) (v:V) (k:List V→Option β):vZ cs n v k = if n + 1 ≤ cs.length then k (gK cs n [v]) else none:=by
 induction cs generalizing n k with
 | nil=>rfl
 | cons c cs ih=>cases n with
  | zero=>rw [if_pos (by simp)]; cases cs <;> rfl
  | succ n =>
   simp only [vZ,ih,gK,List.length_cons]
   by_cases h:n + 1 ≤ cs.length
   ·rw [if_pos h,if_pos (by omega)]
   ·rw [if_neg h,if_neg (by omega)]
theorem aF5 (c:V) (cs:List V) (v:V) (k:List V→Option β):vZ (c :: cs) 0 v k = k (v :: cs):=rfl
theorem aFn (c:V) (cs:List V) (n:Nat) (v:V) (k:List V→Option β):vZ (c :: cs) (n + 1) v k = vZ cs n v fun l=>k (c :: l):=rfl
def dA (cs:List V) (off:Nat) (ws:List V) (k:List V→Option β):Option β:=if off + ws.length ≤ cs.length then k (gK cs off ws) else none
theorem NB {α:Type} (l:List α) (n:Nat):gK l n [] = l:=by cases l <;> rfl
theorem RB (c:V) (cs:List V) (off:Nat) (ws:List V) (k:List V→Option β) (hw:ws ≠ []):dA (c :: cs) (off + 1) ws k = dA cs off ws fun l=>k (c :: l):=by
 unfold dA
 cases ws with
 | nil=>exact absurd rfl hw
 | cons w ws =>
  simp only [List.length_cons,gK]
  by_cases h:off + (ws.length + 1) ≤ cs.length
  ·rw [if_pos h,if_pos (by omega)]
  ·rw [if_neg h,if_neg (by omega)]
theorem SZ (c:V) (cs:List V) (w:V) (ws:List V) (k:List V→Option β):dA (c :: cs) 0 (w :: ws) k = dA cs 0 ws fun l=>k (w :: l):=by
 unfold dA
 simp only [List.length_cons,gK]
 by_cases h:0 + ws.length ≤ cs.length
 ·rw [if_pos h,if_pos (by omega)]
 ·rw [if_neg h,if_neg (by omega)]
theorem TC (cs:List V) (k:List V→Option β):dA cs 0 [] k = k cs:=by simp [dA,NB]
def aP (size off id:Nat) (v:V) (b:Option aX) (kw:V→List (Nat × Option aX)→Option β):Option β:=match b with
 | some (.box cs)=>if v.cells.length = size ∧ off + size ≤ cs.length ∧ v.known = true then kw .any [(id,some (.box (gK cs off v.cells)))] else none
 | _=>none
def FV (size ver i off id:Nat) (v:V) (bl:List (Nat × Option aX)) (b:Option aX) (kw:V→List (Nat × Option aX)→Option β):Option β:=BQ (J0 size ver i off id (sC (lk bl none) v) (bI (j9 (lk bl none)) v.cells) b) kw
def KI (size:Nat) (p v:V) (bl:List (Nat × Option aX)) (kw:V→List (Nat × Option aX)→Option β):Option β:=match p with
 | .ptr id off=>eD bl id fun b=>aP size off id v b kw
 | .orow id ver i off=>eD bl id fun b=>FV size ver i off id v bl b kw
 | _=>none
theorem ZX (size:Nat) (x v:cY):sE T d (.store size x v) fr bl k kw = dH fr x fun p=>dH fr v fun w=>KI size p w bl kw:=by
 rw [jB,XW]
 unfold dH
 generalize cQ (lk fr .any) x = p
 generalize cQ (lk fr .any) v = w
 cases p with
 | ptr id off =>
  rw [aBh]
  simp only [KI,eD]
  generalize lk bl none id = b
  cases b with
  | none=>rfl
  | some b=>cases b with
   | box cs =>
    simp only [TS,aP]
    by_cases h:w.cells.length = size ∧ off + size ≤ cs.length ∧ w.known = true
    ·rw [if_pos h,if_pos h]; rfl
    ·rw [if_neg h,if_neg h]; rfl
   | _=>rfl
 | orow id ver i off =>
  rw [aCj]
  simp only [KI,eD,FV]
  rw [yP]
  generalize lk bl none id = b
  cases b with
  | none=>rfl
  | some b=>cases b with
   | rows v e sz rows =>
    simp only [J0]
    by_cases h:ver = v
    ·rw [if_pos h]
     cases rows[i]? with
     | none=>rfl
     | some row =>
      cases bI (j9 (lk bl none)) w.cells with
      | none=>rfl
      | some ds =>
       simp only
       split <;> rfl
    ·rw [if_neg h]; rfl
   | _=>rfl
 | _=>rfl
theorem aAR (size id off:Nat) (v:V):KI size (.ptr id off) v bl kw = eD bl id fun b=>aP size off id v b kw:=rfl
theorem aBk (size id ver i off:Nat) (v:V):KI size (.orow id ver i off) v bl kw = eD bl id fun b=>FV size ver i off id v bl b kw:=rfl
theorem CR (off id:Nat) (w c:V) (cs:List V) (hw:w.one = true) (hk:w.known = true):aP 1 off id w (some (.box (c :: cs))) kw = vZ (c :: cs) off w fun l=>kw .any [(id,some (.box l))]:=by
 have hc:w.cells = [w]:=by cases w <;> first | rfl | cases hw
 rw [O1]
 simp only [aP,hc,hk]
 by_cases h:off + 1 ≤ (c :: cs).length
 ·rw [if_pos h,if_pos ⟨rfl,h,trivial⟩]
 ·rw [if_neg h,if_neg (fun q=>h q.2.1)]
theorem X4 (off id:Nat) (x:D) (c:V) (cs:List V):aP 1 off id (.d x) (some (.box (c :: cs))) kw = vZ (c :: cs) off (.d x) fun l=>kw .any [(id,some (.box l))]:=CR off id _ c cs rfl rfl
theorem PQ (off id:Nat) (c:V) (cs:List V):aP 1 off id .nil (some (.box (c :: cs))) kw = vZ (c :: cs) off .nil fun l=>kw .any [(id,some (.box l))]:=CR off id _ c cs rfl rfl
theorem PH (off id i v:Nat) (c:V) (cs:List V):aP 1 off id (.own i v) (some (.box (c :: cs))) kw = vZ (c :: cs) off (.own i v) fun l=>kw .any [(id,some (.box l))]:=CR off id _ c cs rfl rfl
theorem P1 (off id i v:Nat) (c:V) (cs:List V):aP 1 off id (.ptr i v) (some (.box (c :: cs))) kw = vZ (c :: cs) off (.ptr i v) fun l=>kw .any [(id,some (.box l))]:=CR off id _ c cs rfl rfl
def kW (cs:List V) (n:Nat) (x:Option β):Option β:=if cs.length = n then x else none
theorem aFK (x:Option β):kW [] 0 x = x:=rfl
theorem aER (c:V) (cs:List V) (n:Nat) (x:Option β):kW (c :: cs) (n + 1) x = kW cs n x:=by
 unfold kW
 simp only [List.length_cons]
 by_cases h:cs.length = n
 ·rw [if_pos h,if_pos (by omega)]
 ·rw [if_neg h,if_neg (by omega)]
theorem Q8 (size off id:Nat) (ws:List V) (c:V) (cs:List V):aP size off id (.agg ws) (some (.box (c :: cs))) kw = kW ws size (dA (c :: cs) off ws fun l=>kw .any [(id,some (.box l))]):=by
 unfold kW dA
 show (if ws.length = size ∧ off + size ≤ (c :: cs).length ∧ V.known (.agg ws) = true then kw .any [(id,some (.box (gK (c :: cs) off ws)))] else none) = _
 by_cases h:ws.length = size
 ·subst h
  rw [if_pos rfl]
  by_cases h:off + ws.length ≤ (c :: cs).length
  ·rw [if_pos h,if_pos ⟨rfl,h,rfl⟩]
  ·rw [if_neg h,if_neg (fun q=>h q.2.1)]
 ·rw [if_neg h,if_neg (fun q=>h q.1)]
theorem MR {α:Type}:∀ (l m:List α),l.length = m.length→gK l 0 m = m
 | [],[],_=>rfl
 | _ :: l,x :: m,h=>by
  simp only [gK]
  rw [MR l m (by simpa using h)]
 | [],_ :: _,h=>by simp at h
 | _ :: _,[],h=>by simp at h
theorem cN (n id:Nat) (ds:List D) (hd:ds.length = n) (cs:List V) (hc:cs.length = n):aP n 0 id (cW ds) (some (.box cs)) kw = kw .any [(id,some (.box (aC ds)))]:=by
 have e:(aC ds).length = n:=by rw [← hd]; simp [aC]
 show (if (aC ds).length = n ∧ 0 + n ≤ cs.length ∧ V.known (cW ds) = true then kw .any [(id,some (.box (gK cs 0 (aC ds))))] else none) = _
 rw [if_pos ⟨e,by omega,rfl⟩,MR _ _ (by rw [hc,e])]
def aDq (v:V) (bl:List (Nat × Option aX)) (k:V→Option β):Option β:=match v with
 | .ptr id off=>k (.ptr id off)
 | .d (.ptr row off)=>k (.d (.ptr row off))
 | .orow id ver i off=>eD bl id fun b=>match b with
  | some (.rows v _ _ _)=>if ver = v then k (.orow id ver i off) else none
  | _=>none
 | _=>none
theorem OI (x:cY):sE T d (.nilCheck x) fr bl k kw = dH fr x fun v=>aDq v bl k:=by
 unfold sE dH
 simp only [dW]
 generalize cQ (lk fr .any) x = v
 cases v with
 | d x=>cases x <;> rfl
 | orow id ver i off =>
  simp only [aDq,eD]
  generalize lk bl none id = b
  cases b with
  | none=>rfl
  | some b=>cases b with
   | rows v e s rows=>simp only; by_cases h:ver = v <;> simp [h]
   | _=>rfl
 | _=>rfl
theorem aIO (id off:Nat):aDq (.ptr id off) bl k = k (.ptr id off):=rfl
theorem aIB (row:List D) (off:Nat):aDq (.d (.ptr row off)) bl k = k (.d (.ptr row off)):=rfl
def Q0 (id ver i off:Nat) (b:Option aX) (k:V→Option β):Option β:=match b with
 | some (.rows v _ _ _)=>if ver = v then k (.orow id ver i off) else none
 | _=>none
theorem aHV (id ver i off:Nat):aDq (.orow id ver i off) bl k = eD bl id fun b=>Q0 id ver i off b k:=rfl
theorem aF6 (id ver i off e s:Nat) (rows:List (List D)):Q0 id ver i off (some (.rows ver e s rows)) k = k (.orow id ver i off):=if_pos rfl
def faK (off:Nat) (v:V) (bl:List (Nat × Option aX)) (k:V→Option β):Option β:=match v with
 | .ptr id o=>k (.ptr id (o + off))
 | .d (.ptr row o)=>k (.d (.ptr row (o + off)))
 | .orow id ver i o=>eD bl id fun b=>Q0 id ver i (o + off) b k
 | _=>none
theorem LN (off:Nat) (x:cY):sE T d (.fieldAddr off x) fr bl k kw = dH fr x fun v=>faK off v bl k:=by
 unfold sE dH
 simp only [dW]
 generalize cQ (lk fr .any) x = v
 cases v with
 | d x=>cases x <;> rfl
 | orow id ver i o =>
  simp only [faK,eD]
  generalize lk bl none id = b
  cases b with
  | none=>rfl
  | some b=>cases b with
   | rows v e s rows=>simp only [Q0]; by_cases h:ver = v <;> simp [h]
   | _=>rfl
 | _=>rfl
theorem aKp (off id o:Nat):faK off (.ptr id o) bl k = k (.ptr id (o + off)):=rfl
theorem aJn (off:Nat) (row:List D) (o:Nat):faK off (.d (.ptr row o)) bl k = k (.d (.ptr row (o + off))):=rfl
theorem aJq (off id ver i o:Nat):faK off (.orow id ver i o) bl k = eD bl id fun b=>Q0 id ver i (o + off) b k:=rfl
def nO (c:Nat) (op:BinOp) (a b:V) (k:V→Option β):Option β:=(wV c op a b).bind fun x=>k (.d x)
theorem aFj (c:Nat) (op:BinOp) (x y:cY):sE T d (.bin c op x y) fr bl k kw = dH fr x fun a=>dH fr y fun b=>nO c op a b k:=by
 rw [jB]
 exact JC _
section
variable (kd:IntKind) (x y:Int)
theorem aCP:nO 0 .add (.d (.int kd x)) (.d (.int kd y)) k = k (.d (.int kd (IntKind.wrap kd (x + y)))):=by simp [nO,wV,m5]
theorem aBs:nO 0 .sub (.d (.int kd x)) (.d (.int kd y)) k = k (.d (.int kd (IntKind.wrap kd (x - y)))):=by simp [nO,wV,m5]
theorem aBi:nO 0 .mul (.d (.int kd x)) (.d (.int kd y)) k = k (.d (.int kd (IntKind.wrap kd (x * y)))):=by simp [nO,wV,m5]
theorem aDJ:nO 0 .quo (.d (.int kd x)) (.d (.int kd y)) k = if y = 0 then none else k (.d (.int kd (IntKind.wrap kd (x.tdiv y)))):=by
 simp only [nO,wV,m5,if_true]; split <;> rfl
theorem aCl:nO 0 .rem (.d (.int kd x)) (.d (.int kd y)) k = if y = 0 then none else k (.d (.int kd (x.tmod y))):=by
 simp only [nO,wV,m5,if_true]; split <;> rfl
theorem aDP:nO 0 .eql (.d (.int kd x)) (.d (.int kd y)) k = k (.d (.bool (x == y))):=by simp [nO,wV,m5]
theorem aA5:nO 0 .neq (.d (.int kd x)) (.d (.int kd y)) k = k (.d (.bool (x != y))):=by simp [nO,wV,m5]
theorem aCg:nO 0 .lss (.d (.int kd x)) (.d (.int kd y)) k = k (.d (.bool (decide (x < y)))):=by simp [nO,wV,m5]
theorem aDl:nO 0 .leq (.d (.int kd x)) (.d (.int kd y)) k = k (.d (.bool (decide (x ≤ y)))):=by simp [nO,wV,m5]
theorem aDe:nO 0 .gtr (.d (.int kd x)) (.d (.int kd y)) k = k (.d (.bool (decide (x > y)))):=by simp [nO,wV,m5]
theorem aBE:nO 0 .geq (.d (.int kd x)) (.d (.int kd y)) k = k (.d (.bool (decide (x ≥ y)))):=by simp [nO,wV,m5]
theorem aCD:nO 0 .and (.d (.int kd x)) (.d (.int kd y)) k = k (.d (.int kd (IntKind.wrap kd (BitVec.ofInt (IntKind.bits kd) x &&& BitVec.ofInt (IntKind.bits kd) y).toNat))):=by simp [nO,wV,m5]
theorem aFB:nO 0 .or (.d (.int kd x)) (.d (.int kd y)) k = k (.d (.int kd (IntKind.wrap kd (BitVec.ofInt (IntKind.bits kd) x ||| BitVec.ofInt (IntKind.bits kd) y).toNat))):=by simp [nO,wV,m5]
theorem aDI:nO 0 .xor (.d (.int kd x)) (.d (.int kd y)) k = k (.d (.int kd (IntKind.wrap kd (BitVec.ofInt (IntKind.bits kd) x ^^^ BitVec.ofInt (IntKind.bits kd) y).toNat))):=by simp [nO,wV,m5]
end
section
variable (x y:ByteArray)
theorem XB:nO 0 .eql (.d (.str x)) (.d (.str y)) k = k (.d (.bool (x.toList == y.toList))):=rfl
theorem ZE:nO 0 .neq (.d (.str x)) (.d (.str y)) k = k (.d (.bool !(x.toList == y.toList))):=rfl
theorem ZD:nO 0 .lss (.d (.str x)) (.d (.str y)) k = k (.d (.bool (Op.bytesLess x.toList y.toList))):=rfl
theorem ZQ:nO 0 .leq (.d (.str x)) (.d (.str y)) k = k (.d (.bool (Op.bytesLess x.toList y.toList || x.toList == y.toList))):=rfl
theorem YZ:nO 0 .gtr (.d (.str x)) (.d (.str y)) k = k (.d (.bool !(Op.bytesLess x.toList y.toList || x.toList == y.toList))):=rfl
theorem XS:nO 0 .geq (.d (.str x)) (.d (.str y)) k = k (.d (.bool !(Op.bytesLess x.toList y.toList))):=rfl
end
theorem YG (x y:Bool):nO 1 .eql (.d (.bool x)) (.d (.bool y)) k = k (.d (.bool (x == y))):=rfl
theorem X7 (x y:Bool):nO 1 .neq (.d (.bool x)) (.d (.bool y)) k = k (.d (.bool !(x == y))):=rfl
def K0 (o:Option D) (k:V→Option β):Option β:=o.bind fun x=>k (.d x)
theorem vX {o o' : Option D} {k:V→Option β} (h:o = o'):K0 o k = K0 o' k:=by rw [h]
theorem YX (x:D):K0 (some x) k = k (.d x):=rfl
theorem aAz:K0 none k = none:=rfl
theorem aGf (ks:List Nat) (neg:Bool) (x y:cY):sE T d (.eqS ks neg x y) fr bl k kw = dH fr x fun a=>dH fr y fun b=>K0 (eqV ks neg a b) k:=by
 rw [jB]
 exact JC _
def dG:List Nat→List V→List V→(Bool→Option β)→Option β:=fun ks xs ys k=>match eC ks xs ys with
 | some b=>k b
 | none=>none
def LW (ks:List Nat) (neg:Bool) (a b:V) (k:V→Option β):Option β:=match a,b with
 | .agg xs,.agg ys=>dG ks xs ys fun b=>k (.d (.bool (if neg then !b else b)))
 | _,_=>none
theorem aG6 (ks:List Nat) (neg:Bool) (x y:cY):sE T d (.eqS ks neg x y) fr bl k kw = dH fr x fun a=>dH fr y fun b=>LW ks neg a b k:=by
 rw [aGf]
 unfold dH
 generalize cQ (lk fr .any) x = a
 generalize cQ (lk fr .any) y = b
 cases a with
 | agg xs=>cases b with
  | agg ys =>
   simp only [eqV,LW,dG,K0]
   cases eC ks xs ys <;> rfl
  | _=>rfl
 | _=>cases b <;> rfl
section
variable {k:V→Option β}
theorem aCC (ks:List Nat) (xs ys:List V):LW ks true (.agg xs) (.agg ys) k = dG ks xs ys fun b=>k (.d (.bool !b)):=rfl
theorem aDG (ks:List Nat) (xs ys:List V):LW ks false (.agg xs) (.agg ys) k = dG ks xs ys fun b=>k (.d (.bool b)):=rfl
theorem aBj (ks:List Nat) (xs:List D) (ys:List V):LW ks true (cW xs) (.agg ys) k = dG ks (aC xs) ys fun b=>k (.d (.bool !b)):=rfl
theorem aDa (ks:List Nat) (xs:List D) (ys:List V):LW ks false (cW xs) (.agg ys) k = dG ks (aC xs) ys fun b=>k (.d (.bool b)):=rfl
theorem aBo (ks:List Nat) (xs:List V) (ys:List D):LW ks true (.agg xs) (cW ys) k = dG ks xs (aC ys) fun b=>k (.d (.bool !b)):=rfl
theorem aCv (ks:List Nat) (xs:List V) (ys:List D):LW ks false (.agg xs) (cW ys) k = dG ks xs (aC ys) fun b=>k (.d (.bool b)):=rfl
theorem aDT (ks:List Nat) (xs ys:List D):LW ks true (cW xs) (cW ys) k = dG ks (aC xs) (aC ys) fun b=>k (.d (.bool !b)):=rfl
theorem aDS (ks:List Nat) (xs ys:List D):LW ks false (cW xs) (cW ys) k = dG ks (aC xs) (aC ys) fun b=>k (.d (.bool b)):=rfl
end
section
variable {k:Bool→Option β}
theorem aFR (kd:IntKind) (x y:Int):dG [0] [.d (.int kd x)] [.d (.int kd y)] k = k (x == y):=by simp [dG,eC,rL]
theorem aFu (x y:Bool):dG [1] [.d (.bool x)] [.d (.bool y)] k = k (x == y):=by simp [dG,eC,rL]
theorem aEm (x y:ByteArray):dG [2] [.d (.str x)] [.d (.str y)] k = k (x == y):=by simp [dG,eC,rL]
theorem aHM (kd:IntKind) (x y:Int) (c:Nat) (ks:List Nat) (xs ys:List V):dG (0 :: c :: ks) (.d (.int kd x) :: xs) (.d (.int kd y) :: ys) k = dG (c :: ks) xs ys fun b=>k ((x == y) && b):=by
 simp only [dG,eC,rL,if_true]
 cases eC (c :: ks) xs ys <;> rfl
theorem aIe (x y:Bool) (c:Nat) (ks:List Nat) (xs ys:List V):dG (1 :: c :: ks) (.d (.bool x) :: xs) (.d (.bool y) :: ys) k = dG (c :: ks) xs ys fun b=>k ((x == y) && b):=by
 simp only [dG,eC,rL]
 cases eC (c :: ks) xs ys <;> rfl
theorem aHH (x y:ByteArray) (c:Nat) (ks:List Nat) (xs ys:List V):dG (2 :: c :: ks) (.d (.str x) :: xs) (.d (.str y) :: ys) k = dG (c :: ks) xs ys fun b=>k ((x == y) && b):=by
 simp only [dG,eC,rL]
 cases eC (c :: ks) xs ys <;> rfl
end
def aDV (kd:IntKind) (x:Int):List V→(V→Option β)→Option β:=fun l k=>K0 (S1 kd x l) k
def aCm (kd:IntKind) (x:Int):List V→(V→Option β)→Option β:=fun l k=>K0 (TR kd x l) k
def aHl (l:List V) (k:V→Option β):Option β:=K0 (aGR l) k
def aHk (l:List V) (k:V→Option β):Option β:=K0 (aGs l) k
theorem aEw (l:List cY):sE T d (.max l) fr bl k kw = HW fr l fun vs=>aHl vs k:=by
 rw [jB,O4]
 exact JC _
theorem aFe (l:List cY):sE T d (.min l) fr bl k kw = HW fr l fun vs=>aHk vs k:=by
 rw [jB,O4]
 exact JC _
section
variable {k:V→Option β}
theorem aFQ (kd:IntKind) (x:Int) (l:List V):aHl (.d (.int kd x) :: l) k = aDV kd x l k:=rfl
theorem aFs (kd:IntKind) (x:Int) (l:List V):aHk (.d (.int kd x) :: l) k = aCm kd x l k:=rfl
theorem aC6 (kd:IntKind) (x:Int):aDV kd x [] k = k (.d (.int kd x)):=rfl
theorem aBl (kd:IntKind) (x:Int):aCm kd x [] k = k (.d (.int kd x)):=rfl
theorem aAI (kd:IntKind) (x y:Int) (l:List V):aDV kd x (.d (.int kd y) :: l) k = aDV kd (if y > x then y else x) l k:=by simp [aDV,S1]
theorem YD (kd:IntKind) (x y:Int) (l:List V):aCm kd x (.d (.int kd y) :: l) k = aCm kd (if y < x then y else x) l k:=by simp [aCm,TR]
end
def unK (op:UnOp) (v:V) (k:V→Option β):Option β:=K0 (unV op v) k
theorem aIi (op:UnOp) (x:cY):sE T d (.un op x) fr bl k kw = dH fr x fun a=>unK op a k:=by
 rw [jB]
 exact JC _
theorem aEs (b:Bool):unK .not (.d (.bool b)) k = k (.d (.bool !b)):=rfl
theorem aGk (kd:IntKind) (n:Int):unK .neg (.d (.int kd n)) k = k (.d (.int kd (IntKind.wrap kd (0 - n)))):=rfl
def aHd (kd:IntKind) (v:V) (k:V→Option β):Option β:=match v with
 | .d (.int _ n)=>k (.d (.int kd (IntKind.wrap kd n)))
 | _=>none
theorem aBL (kd:IntKind) (x:cY):sE T d (.conv kd x) fr bl k kw = dH fr x fun a=>aHd kd a k:=by
 unfold sE dH
 simp only [dW]
 generalize cQ (lk fr .any) x = v
 cases v with
 | d x=>cases x <;> rfl
 | _=>rfl
theorem aFM (kd kd' : IntKind) (n:Int):aHd kd (.d (.int kd' n)) k = k (.d (.int kd (IntKind.wrap kd n))):=rfl
def kQ (s:ByteArray):List Int:=s.data.toList.map fun b=>(b.toNat:Int)
def TE (v:V) (k:V→Option β):Option β:=match v with
 | .d (.str s)=>k (.d (.sl (cM (cK .u8) (kQ s))))
 | _=>none
theorem Z4 (x:cY):sE T d (.bytes x) fr bl k kw = dH fr x fun a=>TE a k:=by
 unfold sE dH
 simp only [dW]
 generalize cQ (lk fr .any) x = v
 cases v with
 | d x=>cases x with
  | str s =>
   have:(s.data.toList.map fun b=>[D.int .u8 (b.toNat:Int)]) = cM (cK .u8) (kQ s):=by
    simp only [cM,kQ,List.map_map]
    rfl
   simp only [TE,this]
  | _=>rfl
 | _=>rfl
theorem aCE (s:ByteArray):TE (.d (.str s)) k = k (.d (.sl (cM (cK .u8) (kQ s)))):=rfl
def DM (v:V) (bl:List (Nat × Option aX)) (k:List (List D)→Option β):Option β:=(iI (lk bl none) v).bind k
def CL (ver:Nat) (b:Option aX) (k:List (List D)→Option β):Option β:=(aBv ver b).bind k
theorem aCe (rows:List (List D)) (k:List (List D)→Option β):DM (.d (.sl rows)) bl k = k rows:=rfl
theorem Y7 (k:List (List D)→Option β):DM .nil bl k = k []:=rfl
theorem M7 (id ver:Nat) (k:List (List D)→Option β):DM (.own id ver) bl k = eD bl id fun b=>CL ver b k:=by
 unfold DM eD CL
 simp only [iI]
 generalize lk bl none id = b
 cases b with
 | none=>rfl
 | some b=>cases b <;> rfl
theorem HX (v e s:Nat) (rows:List (List D)) (k:List (List D)→Option β):CL v (some (.rows v e s rows)) k = k rows:=by simp [CL,aBv]
theorem H4 (v:Nat) (rows:List (List D)) (k:List (List D)→Option β):CL v (some (.froz v rows)) k = k rows:=by simp [CL,aBv]
theorem aF4 (x:cY):sE T d (.len x) fr bl k kw = dH fr x fun a=>DM a bl fun rows=>k (.d (.int .i64 rows.length)):=by
 unfold sE dH DM
 simp only [dW]
 cases iI (lk bl none) (cQ (lk fr .any) x) <;> rfl
def aHx (v:V) (k:V→Option β):Option β:=match v with
 | .d (.str s)=>k (.d (.int .i64 s.size))
 | _=>none
theorem aB2 (x:cY):sE T d (.lenS x) fr bl k kw = dH fr x fun a=>aHx a k:=by
 unfold sE dH
 simp only [dW]
 generalize cQ (lk fr .any) x = v
 cases v with
 | d x=>cases x <;> rfl
 | _=>rfl
theorem aGt (s:ByteArray):aHx (.d (.str s)) k = k (.d (.int .i64 s.size)):=rfl
def EM (off size:Nat) (isAgg:Bool) (v:V) (k:V→Option β):Option β:=match v with
 | .agg cs=>if isAgg = true then qP cs off size fun l=>k (.agg l) else xV cs off k
 | _=>none
theorem XF (off size:Nat) (isAgg:Bool) (x:cY):sE T d (.field off size isAgg x) fr bl k kw = dH fr x fun v=>EM off size isAgg v k:=by
 unfold sE dH
 simp only [dW]
 generalize cQ (lk fr .any) x = v
 cases v with
 | agg cs =>
  cases isAgg with
  | true =>
   simp only [EM,qP,if_true]
   by_cases h:off + size ≤ cs.length
   ·rw [if_pos h,if_pos h]
   ·rw [if_neg h,if_neg h]
  | false=>simp only [EM,FK,Bool.false_eq_true,if_false]; cases cs[off]? <;> rfl
 | _=>rfl
theorem aA9 (off size:Nat) (cs:List V):EM off size false (.agg cs) k = xV cs off k:=rfl
theorem aCx (off size:Nat) (cs:List V):EM off size true (.agg cs) k = qP cs off size fun l=>k (.agg l):=rfl
theorem ZK (off size:Nat) (ds:List D):EM off size false (cW ds) k = bK ds off fun x=>k (.d x):=by
 show xV (aC ds) off k = _
 rw [VT]
theorem XH (off size:Nat) (ds:List D):EM off size true (cW ds) k = iG ds off size fun l=>k (cW l):=by
 show qP (aC ds) off size (fun l=>k (.agg l)) = _
 rw [ON]; rfl
def gP (ds:List D) (n:Nat) (x:Option β):Option β:=if ds.length = n then x else none
def aBG (size:Nat) (x i:V) (bl:List (Nat × Option aX)) (k:V→Option β):Option β:=DC (NP size x i (lk bl none)) k fun _ _=>none
theorem YH {size:Nat} {x i:V} {b:Nat→Option aX} {kw' : V→List (Nat × Option aX)→Option β}:DC (NP size x i b) k kw = DC (NP size x i b) k kw':=by
 have:∀ r,NP size x i b = some r→r.2 = []:=by
  intro r
  unfold NP
  intro e
  repeat' split at e
  all_goals first | cases e; rfl | cases e
 cases h:NP size x i b with
 | none=>rfl
 | some r=>obtain ⟨v,wr⟩:=r; have:=this _ h; dsimp only at this; subst this; rfl
theorem LT (size:Nat) (x i:cY):sE T d (.indexAddr size x i) fr bl k kw = dH fr x fun a=>dH fr i fun b=>aBG size a b bl k:=by
 rw [jB,L5]
 unfold dH aBG
 exact YH
theorem aFy {α:Type} (size:Nat) (c:α→List D) (xs:List α) (kd:IntKind) (n:Int):aBG size (.d (.sl (cM c xs))) (.d (.int kd n)) bl k = (at? xs n).bind fun x=>gP (c x) size (k (.d (.ptr (c x) 0))):=by
 unfold aBG
 rw [yP,aD4]
 rfl
def PI (size id ver:Nat) (n:Int) (b:Option aX) (k:V→Option β):Option β:=DC (aCK size id ver n b) k fun _ _=>none
theorem aCq (size id ver:Nat) (kd:IntKind) (n:Int):aBG size (.own id ver) (.d (.int kd n)) bl k = eD bl id fun b=>PI size id ver n b k:=rfl
theorem VL {α:Type} (size id v e:Nat) (n:Int) (c:α→List D) (xs:List α):PI size id v n (some (.rows v e size (cM c xs))) k = if 0 ≤ n ∧ n.toNat < xs.length then k (.orow id v n.toNat 0) else none:=by
 unfold PI
 rw [yP,Z6,if_pos rfl,if_pos rfl,aH]
theorem SL {α:Type} (size id v:Nat) (n:Int) (c:α→List D) (xs:List α):PI size id v n (some (.froz v (cM c xs))) k = (at? xs n).bind fun x=>gP (c x) size (k (.d (.ptr (c x) 0))):=by
 unfold PI
 rw [yP,Z1,if_pos rfl]
 rfl
def WY (x i:V) (k:V→Option β):Option β:=BQ (CC x i) fun v _=>k v
theorem ZN (x i:cY):sE T d (.index x i) fr bl k kw = dH fr x fun a=>dH fr i fun b=>WY a b k:=by
 rw [jB,ZZ]
 unfold dH WY
 generalize cQ (lk fr .any) x = a
 generalize cQ (lk fr .any) i = b
 have:∀ r,CC a b = some r→r.2 = []:=by
  intro r
  unfold CC
  intro e
  repeat' split at e
  all_goals first | cases e; rfl | cases e
 show _ = BQ (CC a b) fun v _=>k v
 cases h:CC a b with
 | none=>rfl
 | some r=>obtain ⟨v,wr⟩:=r; have:=this _ h; dsimp only at this; subst this; rfl
theorem aEF (s:ByteArray) (kd:IntKind) (n:Int):WY (.d (.str s)) (.d (.int kd n)) k = (sAt s n).bind fun b=>k (.d (.int .u8 b)):=by
 unfold WY
 rw [aCc]
def R0 (fr:List (Nat × V)) (o:Option cY) (k:Option V→Option β):Option β:=match o with
 | none=>k none
 | some x=>dH fr x fun v=>k (some v)
theorem aIr (k:Option V→Option β):R0 fr none k = k none:=rfl
theorem aI1 (x:cY) (k:Option V→Option β):R0 fr (some x) k = dH fr x fun v=>k (some v):=rfl
def AS (size:Nat) (x:V) (lo hi:Option V) (bl:List (Nat × Option aX)) (k:V→Option β) (kw:V→List (Nat × Option aX)→Option β):Option β:=DC (rW (lk bl none) size x lo hi) k kw
theorem ZI (size:Nat) (x:cY) (lo hi:Option cY):sE T d (.slice size x lo hi) fr bl k kw = dH fr x fun a=>R0 fr lo fun l=>R0 fr hi fun h=>AS size a l h bl k kw:=by
 rw [jB,XM]
 cases lo <;> cases hi <;> rfl
section
variable {α:Type} (size:Nat) (c:α→List D) (xs:List α) (hs:sized size (cM c xs) = true)
include hs
theorem CM {lo hi:Option V} {l h:Int} (hl:yG lo 0 = some l) (hh:yG hi (xs.length:Int) = some h):AS size (.d (.sl (cM c xs))) lo hi bl k kw = if fW xs.length l h then k (.d (.sl (cM c (dB xs l h)))) else none:=by
 unfold AS
 rw [yP,YW _ size c xs lo hi l h hl hh hs]
theorem Y8:AS size (.d (.sl (cM c xs))) none none bl k kw = if fW xs.length 0 (xs.length:Int) then k (.d (.sl (cM c (dB xs 0 (xs.length:Int))))) else none:=CM size c xs hs rfl rfl
theorem YV (kd:IntKind) (l:Int):AS size (.d (.sl (cM c xs))) (some (.d (.int kd l))) none bl k kw = if fW xs.length l (xs.length:Int) then k (.d (.sl (cM c (dB xs l (xs.length:Int))))) else none:=CM size c xs hs rfl rfl
theorem YF (kd:IntKind) (h:Int):AS size (.d (.sl (cM c xs))) none (some (.d (.int kd h))) bl k kw = if fW xs.length 0 h then k (.d (.sl (cM c (dB xs 0 h)))) else none:=CM size c xs hs rfl rfl
theorem ZV (kd kd' : IntKind) (l h:Int):AS size (.d (.sl (cM c xs))) (some (.d (.int kd l))) (some (.d (.int kd' h))) bl k kw = if fW xs.length l h then k (.d (.sl (cM c (dB xs l h)))) else none:=CM size c xs hs rfl rfl
end
def L4 (e size bytes d:Nat) (x y:V) (bl:List (Nat × Option aX)) (kw:V→List (Nat × Option aX)→Option β):Option β:=DM y bl fun new =>
 if sized size new = true then
   match x with
   | .nil=>eD bl d fun b=>vC b (if new.length * bytes ≤ 140737488355328 then kw (.own d 0) [(d,some (.rows 0 e size new))] else none)
   | .own id ver=>eD bl id fun b=>match b with
    | some (.rows v e' size' rows)=>if ver = v ∧ e' = e ∧ size' = size ∧ (rows.length + new.length) * bytes ≤ 140737488355328 then kw (.own id (ver + 1)) [(id,some (.rows (ver + 1) e size (rows ++ new)))] else none
    | _=>none
   | _=>none
   else none
theorem S8 (e size bytes:Nat) (x y:cY):sE T d (.append e size bytes x y) fr bl k kw = dH fr x fun a=>dH fr y fun b=>L4 e size bytes d a b bl kw:=by
 unfold sE dH L4 DM eD vC
 simp only [dW]
 generalize cQ (lk fr .any) x = v
 cases iI (lk bl none) (cQ (lk fr .any) y) with
 | none=>rfl
 | some new =>
  simp only [Option.bind_some]
  by_cases hs:sized size new = true
  ·rw [if_pos hs,if_pos hs]
   cases v with
   | nil =>
    simp only
    cases lk bl none d with
    | none =>
     simp only
     by_cases h:new.length * bytes ≤ 140737488355328
     ·rw [if_pos h,if_pos h]
     ·rw [if_neg h,if_neg h]
    | some b=>rfl
   | own id ver =>
    simp only
    generalize lk bl none id = b
    cases b with
    | none=>rfl
    | some b=>cases b with
     | rows v e' size' rows =>
      simp only
      by_cases h:ver = v ∧ e' = e ∧ size' = size ∧ (rows.length + new.length) * bytes ≤ 140737488355328
      ·rw [if_pos h,if_pos h]
      ·rw [if_neg h,if_neg h]
     | _=>rfl
   | _=>rfl
  ·rw [if_neg hs,if_neg hs]
def I7 {α:Type} (e size bytes d:Nat) (x:V) (c:α→List D) (ys:List α) (bl:List (Nat × Option aX)) (kw:V→List (Nat × Option aX)→Option β):Option β:=match x with
   | .nil=>eD bl d fun b=>vC b (if ys.length * bytes ≤ 140737488355328 then kw (.own d 0) [(d,some (.rows 0 e size (cM c ys)))] else none)
   | .own id ver=>eD bl id fun b=>match b with
    | some (.rows v e' size' rows)=>if ver = v ∧ e' = e ∧ size' = size ∧ (rows.length + ys.length) * bytes ≤ 140737488355328 then kw (.own id (ver + 1)) [(id,some (.rows (ver + 1) e size (rows ++ cM c ys)))] else none
    | _=>none
   | _=>none
theorem X0 {α:Type} (e size bytes d:Nat) (x y:V) (c:α→List D) (ys:List α) (hy:∀ k' : List (List D)→Option β,DM y bl k' = k' (cM c ys)) (hs:sized size (cM c ys) = true):L4 e size bytes d x y bl kw = I7 e size bytes d x c ys bl kw:=by
 unfold L4 I7
 rw [hy,if_pos hs,aH]
theorem N3 {α:Type} (e size bytes d:Nat) (x:V) (c:α→List D) (ys:List α) (hs:sized size (cM c ys) = true):L4 e size bytes d x (.d (.sl (cM c ys))) bl kw = I7 e size bytes d x c ys bl kw:=X0 e size bytes d x _ c ys (fun _=>rfl) hs
def QW (e size bytes d:Nat) (x:V) (ver:Nat) (b:Option aX) (bl:List (Nat × Option aX)) (kw:V→List (Nat × Option aX)→Option β):Option β:=CL ver b fun new=>L4 e size bytes d x (.d (.sl new)) bl kw
theorem aDz (e size bytes d id ver:Nat) (x:V):L4 e size bytes d x (.own id ver) bl kw = eD bl id fun b=>QW e size bytes d x ver b bl kw:=by
 show L4 e size bytes d x (.own id ver) bl kw = CL ver (lk bl none id) fun new=>L4 e size bytes d x (.d (.sl new)) bl kw
 unfold L4
 rw [M7]
 rfl
theorem UE {α:Type} (e size bytes d v e' s' : Nat) (x:V) (c:α→List D) (ys:List α) (hs:sized size (cM c ys) = true):QW e size bytes d x v (some (.rows v e' s' (cM c ys))) bl kw = I7 e size bytes d x c ys bl kw:=by
 unfold QW
 rw [HX,N3 _ _ _ _ _ _ _ hs]
theorem TM {α:Type} (e size bytes d v:Nat) (x:V) (c:α→List D) (ys:List α) (hs:sized size (cM c ys) = true):QW e size bytes d x v (some (.froz v (cM c ys))) bl kw = I7 e size bytes d x c ys bl kw:=by
 unfold QW
 rw [H4,N3 _ _ _ _ _ _ _ hs]
theorem XK {α:Type} (e size bytes d:Nat) (c:α→List D) (ys:List α):I7 e size bytes d .nil c ys bl kw = eD bl d fun b=>vC b (if ys.length * bytes ≤ 140737488355328 then kw (.own d 0) [(d,some (.rows 0 e size (cM c ys)))] else none):=rfl
def aA3 {α:Type} (e size bytes id ver:Nat) (c:α→List D) (ys:List α) (b:Option aX) (kw:V→List (Nat × Option aX)→Option β):Option β:=match b with
    | some (.rows v e' size' rows)=>if ver = v ∧ e' = e ∧ size' = size ∧ (rows.length + ys.length) * bytes ≤ 140737488355328 then kw (.own id (ver + 1)) [(id,some (.rows (ver + 1) e size (rows ++ cM c ys)))] else none
    | _=>none
theorem X5 {α:Type} (e size bytes d id ver:Nat) (c:α→List D) (ys:List α):I7 e size bytes d (.own id ver) c ys bl kw = eD bl id fun b=>aA3 e size bytes id ver c ys b kw:=rfl
theorem T5 {α:Type} (e size bytes id v:Nat) (c:α→List D) (xs ys:List α):aA3 e size bytes id v c ys (some (.rows v e size (cM c xs))) kw = if (xs.length + ys.length) * bytes ≤ 140737488355328 then kw (.own id (v + 1)) [(id,some (.rows (v + 1) e size (cM c (xs ++ ys))))] else none:=by
 simp only [aA3,true_and,aH,XJ]
def F2 (e:Nat) (rows:List (List D)) (k:List (List D)→Option β):Option β:=k rows
def IL (v:V) (bl:List (Nat × Option aX)) (k:List D→List (Nat × Option aX)→Option β):Option β:=match bI (j9 (lk bl none)) v.cells with
 | some row=>k row (sC (lk bl none) v)
 | none=>none
end
section
end
end
end Vm
end Go.Proofs.Ytfhebiceipgdmaa
