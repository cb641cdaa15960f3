/- The small machine's code, read from the front: what is left to do stands in a continuation. Equations by which the small machine's code is read (they are named in the proofs that a program prints). The small machine, read from the front by rewriting at the head only: every value is looked up before it is used. -/
import Derived.Test.YtfhebiceipgdmaaVmD
set_option linter.unusedVariables false
set_option linter.unusedSimpArgs false
namespace Go.Proofs.Ytfhebiceipgdmaa
namespace Vm
open Go.RowKit
section
variable {β:Type}
noncomputable def cX (T:AL) (c:a8) (s:St) (k:Ex→St→Option β):Option β:=(ev T c s).bind fun p=>k p.1 p.2
noncomputable def tH (T:AL) (l:List bT) (s:St) (k:St→Option β):Option β:=(lF (call T) l s).bind k
noncomputable def aEY (T:AL) (l:List bT) (ps:List (Nat × Nat)) (s:St) (k:St→Option β):Option β:=(fZ (call T) l (some ps) s).bind k
def BS (r:EO) (k:V→List (Nat × Option aX)→Option β):Option β:=match r with
 | some (v,wr)=>k v wr
 | none=>none
def FP (v:V) (x y:Option β):Option β:=match v with
 | .d (.bool b)=>if b = true then x else y
 | _=>none
def aFS (k1:St→Option β) (k:Ex→St→Option β):Ex→St→Option β
 | .normal,s=>k1 s
 | e,s=>k e s
def KZ (id:Nat) (k:Ex→St→Option β):Ex→St→Option β
 | .exit id',s=>if id' = id then k .normal s else k (.exit id') s
 | e,s=>k e s
def RN (m:tG) (k:Ex→St→Option β):Ex→St→Option β
 | .normal,s=>k .normal (m.app s)
 | e,s=>k e s
theorem uI {v v' : V} {x y:Option β} (h:v = v'):FP v x y = FP v' x y:=by rw [h]
theorem aAJ (v:V) (wr:List (Nat × Option aX)) (k:V→List (Nat × Option aX)→Option β):BS (some (v,wr)) k = k v wr:=rfl
theorem S0 (b:Bool) (x y:Option β):FP (.d (.bool b)) x y = if b = true then x else y:=rfl
variable {T:AL} {k:Ex→St→Option β}
theorem aDX (s:St):cX T .skip s k = k .normal s:=by unfold cX; rw [aGn]; rfl
theorem aCM (id:Nat) (s:St):cX T (.exit id) s k = k (.exit id) s:=by unfold cX; rw [aG6]; rfl
theorem aEh (s:St):cX T .ret s k = k .ret s:=by unfold cX; rw [aHE]; rfl
theorem TI (l:List bT) (s:St):cX T (.region l none) s k = tH T l s (k .normal):=by
 unfold cX tH
 rw [MQ]
 simp only [fZ]
 cases lF (call T) l s <;> rfl
theorem aCV (l:List bT) (ps:List (Nat × Nat)) (s:St):cX T (.region l (some ps)) s k = aEY T l ps s (k .normal):=by
 unfold cX aEY
 rw [MQ]
 cases fZ (call T) l (some ps) s <;> rfl
theorem aFo (a b:a8) (s:St):cX T (.seq a b) s k = cX T a s (aFS (fun s'=>cX T b s' k) k):=by
 unfold cX
 rw [aIP]
 cases ev T a s with
 | none=>rfl
 | some r =>
  obtain ⟨e,s'⟩:=r
  cases e <;> rfl
theorem aDP (c:cY) (a b:a8) (s:St):cX T (.cond c a b) s k = FP (cQ s.get c) (cX T a s k) (cX T b s k):=by
 unfold cX
 rw [aD0]
 generalize cQ s.get c = v
 cases v with
 | d x=>cases x with
  | bool b=>cases b <;> rfl
  | _=>rfl
 | _=>rfl
theorem aAb (id:Nat) (a:a8) (s:St):cX T (.block id a) s k = cX T a s (KZ id k):=by
 unfold cX
 rw [aB6]
 cases ev T a s with
 | none=>rfl
 | some r =>
  obtain ⟨e,s'⟩:=r
  cases e with
  | normal=>rfl
  | exit i =>
   simp only [Option.bind_some,KZ]
   by_cases h:i = id
   ·simp [h]
   ·simp [h]
  | ret=>rfl
theorem aEG (m:tG) (a:a8) (s:St):cX T (.pre m a) s k = cX T a (m.app s) k:=rfl
theorem aA1 (m:tG) (a:a8) (s:St):cX T (.post a m) s k = cX T a s (RN m k):=by
 unfold cX
 rw [aE6]
 cases ev T a s with
 | none=>rfl
 | some r =>
  obtain ⟨e,s'⟩:=r
  cases e <;> rfl
theorem cA {S X:Type} {step:S→Option (S ⊕ X)} {c:a8} (enc:S→St) (out:X→Ex × St) (hout:∀ x s,out x ≠ (.normal,s))
  (h:∀ s,cX T c (enc s) (fun e s'=>some (e,s')) = dW enc out (step s)) (s:S) :
  cX T (.loop c) (enc s) k = (fY step s).bind fun x=>k (out x).1 (out x).2:=by
 unfold cX
 rw [aDH enc out hout (fun s=>by
  have:=h s
  unfold cX at this
  rw [← this]
  cases ev T c (enc s) <;> rfl) s]
 cases fY step s <;> rfl
theorem aI5 (k1:St→Option β) (k:Ex→St→Option β) (s:St):aFS k1 k .normal s = k1 s:=rfl
theorem aIW (k1:St→Option β) (k:Ex→St→Option β) (i:Nat) (s:St):aFS k1 k (.exit i) s = k (.exit i) s:=rfl
theorem aIQ (k1:St→Option β) (k:Ex→St→Option β) (s:St):aFS k1 k .ret s = k .ret s:=rfl
theorem aBW (id:Nat) (k:Ex→St→Option β) (s:St):KZ id k .normal s = k .normal s:=rfl
theorem aCg (id:Nat) (k:Ex→St→Option β) (i:Nat) (s:St):KZ id k (.exit i) s = if i = id then k .normal s else k (.exit i) s:=rfl
theorem aA7 (id:Nat) (k:Ex→St→Option β) (s:St):KZ id k .ret s = k .ret s:=rfl
theorem aGP (m:tG) (k:Ex→St→Option β) (s:St):RN m k .normal s = k .normal (m.app s):=rfl
theorem aFV (m:tG) (k:Ex→St→Option β) (i:Nat) (s:St):RN m k (.exit i) s = k (.exit i) s:=rfl
theorem aGe (m:tG) (k:Ex→St→Option β) (s:St):RN m k .ret s = k .ret s:=rfl
theorem aCb (s:St) (k:St→Option β):tH T [] s k = k s:=rfl
theorem NB (d:Option Nat) (op:jA) (l:List bT) (s:St) (k:St→Option β) :
  tH T (⟨d,op,none⟩ :: l) s k = BS (dV (call T) (d.getD 0) (cQ s.get) s.blk op) fun v wr=>tH T l (s.put d v wr) k:=by
 unfold tH BS
 simp only [lF,qO,bT.wants,bT.site]
 cases dV (call T) (d.getD 0) (cQ s.get) s.blk op with
 | none=>rfl
 | some r=>rfl
noncomputable def kE (T:AL):List bT→St→List Fp→(St→List Fp→Option β)→Option β
 | [],s,fp,k=>k s fp
 | o :: l,s,fp,k=>match iJ (call T) o s with
  | some (s',p)=>kE T l s' (p :: fp) k
  | none=>none
theorem aCF (l:List bT) (s:St) (fp:List Fp) (k:St→List Fp→Option β):kE T l s fp k = (hJ (call T) l s).bind fun r=>k r.1 (r.2.reverse ++ fp):=by
 induction l generalizing s fp with
 | nil=>rfl
 | cons o l ih =>
  simp only [kE,hJ]
  cases iJ (call T) o s with
  | none=>rfl
  | some q =>
   obtain ⟨s',p⟩:=q
   simp only [ih]
   cases hJ (call T) l s' with
   | none=>rfl
   | some r=>obtain ⟨s'',ps⟩:=r; simp
def aFz (l:List bT) (ps:List (Nat × Nat)) (k:St→Option β) (s:St) (fp:List Fp):Option β:=if EV l fp.reverse ps = true then k s else none
theorem aGI (l:List bT) (ps:List (Nat × Nat)) (s:St) (k:St→Option β):aEY T l ps s k = kE T l s [] (aFz l ps k):=by
 rw [aCF]
 unfold aEY
 simp only [fZ]
 cases hJ (call T) l s with
 | none=>rfl
 | some r =>
  obtain ⟨s',fp⟩:=r
  simp only [Option.bind_some,aFz,List.append_nil,List.reverse_reverse]
  cases h:EV l fp ps <;> simp
theorem JN (d:Option Nat) (op:jA) (l:List bT) (s:St) (fp:List Fp) (k:St→List Fp→Option β) :
  kE T (⟨d,op,none⟩ :: l) s fp k = BS (dV (call T) (d.getD 0) (cQ s.get) s.blk op) fun v wr=>kE T l (s.put d v wr) (s7 ⟨d,op,none⟩ s.get s.blk wr :: fp) k:=by
 unfold BS
 simp only [kE,iJ,bT.wants,bT.site]
 cases dV (call T) (d.getD 0) (cQ s.get) s.blk op with
 | none=>rfl
 | some r=>rfl
theorem BW (fr:List (Nat × V)) (bl:List (Nat × Option aX)) (t:Nat):St.get ⟨fr,bl⟩ t = lk fr .any t:=rfl
theorem aKl (live keep:List Nat) (p:Nat × Nat × Nat × Nat) (l:List (Nat × Nat × Nat × Nat)) (c:List (Nat × Nat × Nat × Nat × Nat)) (ft:List Nat) (fc:List (Nat × Nat)) (s:St):tG.app ⟨live,keep,p :: l,c,ft,fc⟩ s = tG.app ⟨live,keep,l,c,ft,fc⟩ (mkT p s):=rfl
theorem aJC (live keep:List Nat) (p:Nat × Nat × Nat × Nat × Nat) (c:List (Nat × Nat × Nat × Nat × Nat)) (ft:List Nat) (fc:List (Nat × Nat)) (s:St):tG.app ⟨live,keep,[],p :: c,ft,fc⟩ s = tG.app ⟨live,keep,[],c,ft,fc⟩ (mkC p s):=rfl
theorem aHW (live keep:List Nat) (p:Nat) (ft:List Nat) (fc:List (Nat × Nat)) (s:St):tG.app ⟨live,keep,[],[],p :: ft,fc⟩ s = tG.app ⟨live,keep,[],[],ft,fc⟩ (frT p s):=rfl
theorem aH2 (live keep:List Nat) (p:Nat × Nat) (fc:List (Nat × Nat)) (s:St):tG.app ⟨live,keep,[],[],[],p :: fc⟩ s = tG.app ⟨live,keep,[],[],[],fc⟩ (frC p s):=rfl
end
end Vm
end Go.Proofs.Ytfhebiceipgdmaa
set_option linter.unusedVariables false
set_option linter.unusedSimpArgs false
namespace Go.Proofs.Ytfhebiceipgdmaa
namespace Vm
open Go.RowKit
def at? {α:Type} (xs:List α) (n:Int):Option α:=if 0 ≤ n then xs[n.toNat]? else none
def cI (n:Int):List D:=[.int .i64 n]
def cB (b:Bool):List D:=[.bool b]
def cS (s:ByteArray):List D:=[.str s]
def cK (k:IntKind) (n:Int):List D:=[.int k n]
def cD (row:List D):List D:=row
def cM {α:Type} (c:α→List D) (xs:List α):List (List D):=xs.map c
def cL {α:Type} (c:α→List D) (xs:List α):List D:=[.sl (cM c xs)]
def dE {α:Type} (xs:List α) (l h:Int):List α:=(xs.take h.toNat).drop l.toNat
def fX (n:Nat) (l h:Int):Prop:=0 ≤ l ∧ l ≤ h ∧ h.toNat ≤ n
instance (n:Nat) (l h:Int):Decidable (fX n l h):=inferInstanceAs (Decidable (_ ∧ _ ∧ _))
def sAt (s:ByteArray) (n:Int):Option Int:=if 0 ≤ n then s[n.toNat]?.map fun b=>(b.toNat:Int) else none
section
variable {β:Type} {T:AL} {site:Nat} {ev:cY→V} {bl:Nat→Option aX} (k:V→List (Nat × Option aX)→Option β)
def NO (size:Nat) (x i:V) (bl:Nat→Option aX):EO:=match i with
  | .d (.int _ n)=>match x with
   | .own id ver=>match bl id with
    | some (.rows v e sz rows)=>if ver = v ∧ sz = size ∧ 0 ≤ n ∧ n.toNat < rows.length then some (.orow id ver n.toNat 0,[]) else none
    | some (.froz v rows)=>if ver = v ∧ 0 ≤ n then match rows[n.toNat]? with
     | some row=>if row.length = size then some (.d (.ptr row 0),[]) else none
     | none=>none
     else none
    | _=>none
   | .d (.sl rows)=>if 0 ≤ n then match rows[n.toNat]? with
    | some row=>if row.length = size then some (.d (.ptr row 0),[]) else none
    | none=>none
    else none
   | _=>none
  | _=>none
theorem LL (C:Nat→List D→Option D) (size:Nat) (x i:cY):dV C site ev bl (.indexAddr size x i) = NO size (ev x) (ev i) bl:=rfl
theorem aGR {α:Type} (size:Nat) (c:α→List D) (xs:List α) (kd:IntKind) (n:Int) (bl:Nat→Option aX):BS (NO size (.d (.sl (cM c xs))) (.d (.int kd n)) bl) k = (at? xs n).bind fun x=>if (c x).length = size then k (.d (.ptr (c x) 0)) [] else none:=by
 simp only [NO,at?,cM]
 by_cases h:0 ≤ n
 ·rw [if_pos h,if_pos h,List.getElem?_map]
  cases xs[n.toNat]? with
  | none=>rfl
  | some x =>
   simp only [Option.map_some,Option.bind_some]
   by_cases h2:(c x).length = size
   ·rw [if_pos h2,if_pos h2]; rfl
   ·rw [if_neg h2,if_neg h2]; rfl
 ·rw [if_neg h,if_neg h]; rfl
def aDx (size id ver:Nat) (n:Int) (b:Option aX):EO:=match b with
 | some (.rows v e sz rows)=>if ver = v ∧ sz = size ∧ 0 ≤ n ∧ n.toNat < rows.length then some (.orow id ver n.toNat 0,[]) else none
 | some (.froz v rows)=>if ver = v ∧ 0 ≤ n then match rows[n.toNat]? with
  | some row=>if row.length = size then some (.d (.ptr row 0),[]) else none
  | none=>none
  else none
 | _=>none
theorem XF (size id ver v e sz:Nat) (n:Int) (rows:List (List D)) (k:V→List (Nat × Option aX)→Option β):BS (aDx size id ver n (some (.rows v e sz rows))) k = if ver = v then (if sz = size then (if 0 ≤ n ∧ n.toNat < rows.length then k (.orow id ver n.toNat 0) [] else none) else none) else none:=by
 simp only [aDx]
 by_cases h1:ver = v
 ·by_cases h2:sz = size
  ·by_cases h3:0 ≤ n ∧ n.toNat < rows.length
   ·rw [if_pos ⟨h1,h2,h3⟩,if_pos h1,if_pos h2,if_pos h3]; rfl
   ·rw [if_neg (fun q=>h3 q.2.2),if_pos h1,if_pos h2,if_neg h3]; rfl
  ·rw [if_neg (fun q=>h2 q.2.1),if_pos h1,if_neg h2]; rfl
 ·rw [if_neg (fun q=>h1 q.1),if_neg h1]; rfl
theorem ZW {α:Type} (size id ver v:Nat) (n:Int) (c:α→List D) (xs:List α) (k:V→List (Nat × Option aX)→Option β):BS (aDx size id ver n (some (.froz v (cM c xs)))) k = if ver = v then ((at? xs n).bind fun x=>if (c x).length = size then k (.d (.ptr (c x) 0)) [] else none) else none:=by
 simp only [aDx,at?,cM]
 by_cases h1:ver = v
 ·by_cases h:0 ≤ n
  ·rw [if_pos ⟨h1,h⟩,if_pos h1,if_pos h,List.getElem?_map]
   cases xs[n.toNat]? with
   | none=>rfl
   | some x =>
    simp only [Option.map_some,Option.bind_some]
    by_cases h2:(c x).length = size
    ·rw [if_pos h2,if_pos h2]; rfl
    ·rw [if_neg h2,if_neg h2]; rfl
  ·rw [if_neg (fun q=>h q.2),if_pos h1,if_neg h]; rfl
 ·rw [if_neg (fun q=>h1 q.1),if_neg h1]; rfl
def PZ (size:Nat) (isAgg:Bool) (off:Nat) (row:List D):EO :=
 if isAgg then (if off + size ≤ row.length then some (.agg (((row.drop off).take size).map .d),[]) else none) else row[off]?.map fun v=>(.d v,[])
def V1 (size:Nat) (isAgg:Bool) (off:Nat) (b:Option aX):EO:=match b with
 | some (.box cs) =>
  if isAgg then (if off + size ≤ cs.length then some (.agg ((cs.drop off).take size),[]) else none)
  else cs[off]?.map fun v=>(v,[])
 | some (.fbox row)=>PZ size isAgg off row
 | _=>none
def aDW (size:Nat) (isAgg:Bool) (ver i off:Nat) (b:Option aX):EO:=match b with
 | some (.rows v e sz rows)=>if ver = v then match rows[i]? with
  | some row=>PZ size isAgg off row
  | none=>none
  else none
 | _=>none
def HY (size:Nat) (isAgg:Bool) (x:V) (bl:Nat→Option aX):EO:=match x with
 | .ptr id off=>V1 size isAgg off (bl id)
 | .d (.ptr row off)=>PZ size isAgg off row
 | .orow id ver i off=>aDW size isAgg ver i off (bl id)
 | _=>none
theorem E9 (C:Nat→List D→Option D) (size:Nat) (isAgg:Bool) (x:cY):dV C site ev bl (.load size isAgg x) = HY size isAgg (ev x) bl:=rfl
theorem ZL (size:Nat) (isAgg:Bool) (id off:Nat) (bl:Nat→Option aX):HY size isAgg (.ptr id off) bl = V1 size isAgg off (bl id):=rfl
theorem aGv (size:Nat) (isAgg:Bool) (id ver i off:Nat) (bl:Nat→Option aX):HY size isAgg (.orow id ver i off) bl = aDW size isAgg ver i off (bl id):=rfl
theorem aD5 (size off:Nat) (cs:List V):V1 size true off (some (.box cs)) = if off + size ≤ cs.length then some (.agg ((cs.drop off).take size),[]) else none:=rfl
theorem aEc (size off:Nat) (cs:List V):V1 size false off (some (.box cs)) = cs[off]?.map fun v=>(v,[]):=rfl
def KA (size ver i off id:Nat) (fz:List (Nat × Option aX)) (ds:Option (List D)) (b:Option aX):EO:=match b with
 | some (.rows w e sz rows)=>if ver = w then match rows[i]?,ds with
  | some row,some ds=>if ds.length = size ∧ off + size ≤ row.length ∧ wK id fz = true then some (.any,(id,some (.rows w e sz (rows.set i (gJ row off ds)))) :: fz) else none
  | _,_=>none
  else none
 | _=>none
def VM (size off id:Nat) (v:V) (b:Option aX):EO:=match b with
 | some (.box cs)=>if v.cells.length = size ∧ off + size ≤ cs.length ∧ v.known = true then some (.any,[(id,some (.box (gJ cs off v.cells)))]) else none
 | _=>none
def UX (size:Nat) (x v:V) (bl:Nat→Option aX):EO:=match x with
 | .ptr id off=>VM size off id v (bl id)
 | .orow id ver i off=>KA size ver i off id (rS bl v) (bI (j7 bl) v.cells) (bl id)
 | _=>none
theorem YG (C:Nat→List D→Option D) (size:Nat) (x v:cY):dV C site ev bl (.store size x v) = UX size (ev x) (ev v) bl:=rfl
theorem aDA (size id off:Nat) (v:V) (bl:Nat→Option aX):UX size (.ptr id off) v bl = VM size off id v (bl id):=rfl
theorem aDQ (size id ver i off:Nat) (v:V) (bl:Nat→Option aX):UX size (.orow id ver i off) v bl = KA size ver i off id (rS bl v) (bI (j7 bl) v.cells) (bl id):=rfl
theorem VE (size off id:Nat) (v:V) (cs:List V):VM size off id v (some (.box cs)) = if v.cells.length = size ∧ off + size ≤ cs.length ∧ v.known = true then some (.any,[(id,some (.box (gJ cs off v.cells)))]) else none:=rfl
theorem aAo (C:Nat→List D→Option D) (size:Nat) (x:cY) (lo hi:Option cY):dV C site ev bl (.slice size x lo hi) = sM bl size (ev x) (lo.map ev) (hi.map ev):=rfl
def aDi (ver:Nat) (b:Option aX):Option (List (List D)):=match b with
 | some (.rows v _ _ rows)=>if ver = v then some rows else none
 | some (.froz v rows)=>if ver = v then some rows else none
 | _=>none
def yG (v:Option V) (d:Int):Option Int:=match v with
 | none=>some d
 | some (.d (.int _ h))=>some h
 | _=>none
theorem Y0 {α:Type} (size:Nat) (c:α→List D) (xs:List α) (lo hi:Option V) (l h:Int) (hl:yG lo 0 = some l) (hh:yG hi (xs.length:Int) = some h) (hs:sized size (cM c xs) = true) (bl:Nat→Option aX):BS (sM bl size (.d (.sl (cM c xs))) lo hi) k = if fX xs.length l h then k (.d (.sl (cM c (dE xs l h)))) [] else none:=by
 have e0:∀ lo' hi',sM bl size (.d (.sl (cM c xs))) lo' hi' = (match yG hi' ((cM c xs).length:Int),yG lo' 0 with
   | some h,some l=>if 0 ≤ l ∧ l ≤ h ∧ h.toNat ≤ (cM c xs).length ∧ sized size (cM c xs) = true then some (.d (.sl (((cM c xs).take h.toNat).drop l.toNat)),[]) else none
   | _,_=>none):=fun lo' hi'=>rfl
 rw [e0,show ((cM c xs).length:Int) = (xs.length:Int) by simp [cM],hl,hh]
 simp only [show (cM c xs).length = xs.length by simp [cM]]
 by_cases q:fX xs.length l h
 ·rw [if_pos q,if_pos ⟨q.1,q.2.1,q.2.2,hs⟩]
  simp only [aAJ,cM,dE,List.map_drop,List.map_take]
 ·rw [if_neg q,if_neg (fun w=>q ⟨w.1,w.2.1,w.2.2.1⟩)]; rfl
def CC (x i:V):EO:=match x,i with
  | .d (.str s),.d (.int _ n)=>if 0 ≤ n then match s[n.toNat]? with
   | some b=>some (.d (.int .u8 b.toNat),[])
   | none=>none
   else none
  | _,_=>none
theorem aAc (C:Nat→List D→Option D) (x i:cY):dV C site ev bl (.index x i) = CC (ev x) (ev i):=rfl
theorem aDG (s:ByteArray) (kd:IntKind) (n:Int):BS (CC (.d (.str s)) (.d (.int kd n))) k = (sAt s n).bind fun b=>k (.d (.int .u8 b)) []:=by
 simp only [CC,sAt]
 split
 ·cases s[n.toNat]? <;> rfl
 ·rfl
end
section
variable {S X:Type} {enc:S→St} {out:X→Ex × St}
theorem aM (c:Prop) [Decidable c] (a b:Option (S ⊕ X)):dW enc out (if c then a else b) = if c then dW enc out a else dW enc out b:=by split <;> rfl
theorem aG {α:Type} (o:Option α) (f:α→Option (S ⊕ X)):dW enc out (o.bind f) = o.bind fun x=>dW enc out (f x):=by cases o <;> rfl
theorem aE:dW enc out none = none:=rfl
theorem aK (s:S):dW enc out (some (.inl s)) = some (.normal,enc s):=rfl
theorem aJ (x:X):dW enc out (some (.inr x)) = some (out x):=rfl
end
theorem fA {α:Type} (size:Nat) (c:α→List D) (hc:∀ x,(c x).length = size) (xs:List α):sized size (cM c xs) = true:=by
 simp [sized,cM,hc]
theorem aV (xs:List Int):sized 1 (cM cI xs) = true:=fA _ _ (fun x=>by rfl) xs
theorem aS (k:IntKind) (xs:List Int):sized 1 (cM (cK k) xs) = true:=fA _ _ (fun x=>by rfl) xs
theorem aQ (xs:List Bool):sized 1 (cM cB xs) = true:=fA _ _ (fun x=>by rfl) xs
theorem aR (xs:List ByteArray):sized 1 (cM cS xs) = true:=fA _ _ (fun x=>by rfl) xs
theorem aT {α:Type} (c:α→List D) (xs:List (List α)):sized 1 (cM (cL c) xs) = true:=fA _ _ (fun x=>by rfl) xs
theorem aH {α:Type} (c:α→List D) (xs:List α):(cM c xs).length = xs.length:=by simp [cM]
theorem aAF {α:Type} (c:α→List D) (xs ys:List α):cM c xs ++ cM c ys = cM c (xs ++ ys):=by simp [cM]
theorem aIb {α:Type} (c:α→List D) (xs:List α) (i:Nat) (x:α):cM c (xs.set i x) = (cM c xs).set i (c x):=by simp [cM,List.map_set]
theorem OC {α:Type} (c:α→List D) (n:Nat) (x:α):cM c (List.replicate n x) = List.replicate n (c x):=by simp [cM]
theorem aW {α γ:Type} (c:Prop) [Decidable c] (a b:Option α) (f:α→Option γ):(if c then a else b).bind f = if c then a.bind f else b.bind f:=by split <;> rfl
theorem bA {α γ:Type} (c:Prop) [Decidable c] (a b:Option α) (f:α→γ):(if c then a else b).map f = if c then a.map f else b.map f:=by split <;> rfl
theorem bind_map {α γ δ:Type} (o:Option α) (f:α→Option γ) (g:γ→δ):(o.bind f).map g = o.bind fun x=>(f x).map g:=by cases o <;> rfl
theorem aL {α γ:Type} (f:α→Option γ):(none:Option α).bind f = none:=rfl
theorem aI {α γ δ ε:Type} (f:α→Option δ) (g:γ→Option δ) (x:α ⊕ γ) (h:δ→Option ε):(Sum.elim f g x).bind h = Sum.elim (fun y=>(f y).bind h) (fun y=>(g y).bind h) x:=by cases x <;> rfl
theorem aU {α γ δ ε:Type} (f:α→Option δ) (g:γ→Option δ) (x:α ⊕ γ) (h:δ→ε):(Sum.elim f g x).map h = Sum.elim (fun y=>(f y).map h) (fun y=>(g y).map h) x:=by cases x <;> rfl
def gIf {α:Type} (b:Bool) (x y:α):α:=if b = true then x else y
theorem bF {α:Type} (b:Bool) (x y:α):gIf b x y = if b = true then x else y:=rfl
theorem aF {S X α γ:Type} {enc:S→St} {out:X→Ex × St} (f:α→Option (S ⊕ X)) (g:γ→Option (S ⊕ X)) (x:α ⊕ γ):dW enc out (Sum.elim f g x) = Sum.elim (fun y=>dW enc out (f y)) (fun y=>dW enc out (g y)) x:=by cases x <;> rfl
def aKS (sf:dJ):Ex→St→Option D
 | .normal,s=>CE sf s
 | .ret,s=>CE sf s
 | .exit _,_=>none
theorem aCJ {T:AL} {f:Nat} {sf:dJ} (hf:T f = some (.code sf)) (ds:List D) (hl:ds.length = sf.np) (hlt:lH 0 ds = none):Vm.call T f ds = cX T sf.body ⟨mZ 0 ds,[]⟩ (aKS sf):=by
 rw [aFx hf ds hl hlt]
 unfold cX
 cases Vm.ev T sf.body ⟨mZ 0 ds,[]⟩ with
 | none=>rfl
 | some q =>
  obtain ⟨e,s⟩:=q
  cases e <;> rfl
theorem bQ {α β:Type} (o:Option α) {f g:α→Option β} (h:∀ x,f x = g x):o.bind f = o.bind g:=by rw [funext h]
end Vm
end Go.Proofs.Ytfhebiceipgdmaa
set_option linter.unusedVariables false
set_option linter.unusedSimpArgs false
namespace Go.Proofs.Ytfhebiceipgdmaa
namespace Vm
open Go.RowKit
section
variable {β:Type}
def mE (fr:List (Nat × V)) (t:Nat) (k:V→Option β):Option β:=k (lk fr .any t)
def eD (bl:List (Nat × Option aX)) (i:Nat) (k:Option aX→Option β):Option β:=k (lk bl none i)
def dH (fr:List (Nat × V)) (o:cY) (k:V→Option β):Option β:=k (cQ (lk fr .any) o)
theorem aA0 (t:Nat) (v:V) (fr:List (Nat × V)) (k:V→Option β):mE ((t,v) :: fr) t k = k v:=by simp [mE,lk]
theorem YT (a t:Nat) (v:V) (fr:List (Nat × V)) (k:V→Option β) (h:(t == a) = false):mE ((a,v) :: fr) t k = mE fr t k:=by
 have:¬ t = a:=by simpa using h
 simp [mE,lk,this]
theorem aCh (t:Nat) (k:V→Option β):mE [] t k = k .any:=rfl
theorem aDm (t:Nat) (v:Option aX) (fr:List (Nat × Option aX)) (k:Option aX→Option β):eD ((t,v) :: fr) t k = k v:=by simp [eD,lk]
theorem aAl (a t:Nat) (v:Option aX) (fr:List (Nat × Option aX)) (k:Option aX→Option β) (h:(t == a) = false):eD ((a,v) :: fr) t k = eD fr t k:=by
 have:¬ t = a:=by simpa using h
 simp [eD,lk,this]
theorem aBt (t:Nat) (k:Option aX→Option β):eD [] t k = k none:=rfl
theorem aGp (bl:List (Nat × Option aX)) (t:Nat) (k:Option aX→Option β):eD ([] ++ bl) t k = eD bl t k:=rfl
theorem aGN (p:Nat × Option aX) (w bl:List (Nat × Option aX)) (t:Nat) (k:Option aX→Option β):eD ((p :: w) ++ bl) t k = eD (p :: (w ++ bl)) t k:=rfl
theorem aHN (fr:List (Nat × V)) (t:Nat) (k:V→Option β):dH fr (.t t) k = mE fr t k:=rfl
theorem aIU (fr:List (Nat × V)) (v:V) (k:V→Option β):dH fr (.c v) k = k v:=rfl
def aC (ds:List D):List V:=ds.map .d
def cW (ds:List D):V:=.agg (aC ds)
noncomputable def sK (T:AL) (d:Nat) (op:jA) (fr:List (Nat × V)) (bl:List (Nat × Option aX)) (k:V→Option β) (kw:V→List (Nat × Option aX)→Option β):Option β :=
 match dV (call T) d (cQ (lk fr .any)) (lk bl none) op with
 | none=>none
 | some (v,[])=>k v
 | some (v,p :: wr)=>kw v (p :: wr)
theorem ZP {T:AL} (d:Nat) (op:jA) (l:List bT) (fr:List (Nat × V)) (bl:List (Nat × Option aX)) (k:St→Option β) :
  tH T (⟨some d,op,none⟩ :: l) ⟨fr,bl⟩ k = sK T d op fr bl (fun v=>tH T l ⟨(d,v) :: fr,bl⟩ k) (fun v wr=>tH T l ⟨(d,v) :: fr,wr ++ bl⟩ k):=by
 rw [NB]
 unfold sK BS
 show (match dV (call T) d (cQ (lk fr .any)) (lk bl none) op with | some (v,wr)=>_ | none=>none) = _
 cases dV (call T) d (cQ (lk fr .any)) (lk bl none) op with
 | none=>rfl
 | some r=>obtain ⟨v,wr⟩:=r; cases wr <;> rfl
theorem TC {T:AL} (op:jA) (l:List bT) (fr:List (Nat × V)) (bl:List (Nat × Option aX)) (k:St→Option β) :
  tH T (⟨none,op,none⟩ :: l) ⟨fr,bl⟩ k = sK T 0 op fr bl (fun _=>tH T l ⟨fr,bl⟩ k) (fun _ wr=>tH T l ⟨fr,wr ++ bl⟩ k):=by
 rw [NB]
 unfold sK BS
 show (match dV (call T) 0 (cQ (lk fr .any)) (lk bl none) op with | some (v,wr)=>_ | none=>none) = _
 cases dV (call T) 0 (cQ (lk fr .any)) (lk bl none) op with
 | none=>rfl
 | some r=>obtain ⟨v,wr⟩:=r; cases wr <;> rfl
def bP (t:Nat) (b:Bool) (op:jA):jA:=match op with
 | .pick (.t t') x y=>if t' = t then .move (if b then x else y) else op
 | op=>op
def bO (t:Nat) (b:Bool) (o:bT):bT:=match o.guard with
 | some (t',w)=>if t' = t then (if w = b then ⟨o.dst,bP t b o.op,none⟩ else ⟨o.dst,.move (.c (.tup [])),none⟩) else ⟨o.dst,bP t b o.op,some (t',w)⟩
 | none=>⟨o.dst,bP t b o.op,none⟩
def bM (t:Nat) (b:Bool):List bT→List bT
 | []=>[]
 | o :: l=>bO t b o :: (if o.dst = some t then l else bM t b l)
theorem vT {C:Nat→List D→Option D} {site:Nat} {fr:Nat→V} {bl:Nat→Option aX} {t:Nat} {b:Bool} (h:fr t = .d (.bool b)) (op:jA):dV C site (cQ fr) bl (bP t b op) = dV C site (cQ fr) bl op:=by
 cases op with
 | pick c x y =>
  cases c with
  | t t' =>
   simp only [bP]
   split
   ·rename_i e
    subst e
    simp only [dV,cQ,h]
    cases b <;> rfl
   ·rfl
  | c v=>rfl
 | _=>rfl
theorem aAG {C:Nat→List D→Option D} {s:St} {t:Nat} {b:Bool} (h:s.get t = .d (.bool b)) (o:bT):qO C (bO t b o) s = qO C o s:=by
 obtain ⟨d,op,g⟩:=o
 cases g with
 | some g =>
  obtain ⟨t',w⟩:=g
  simp only [bO]
  split
  ·rename_i e
   subst e
   split
   ·rename_i e
    subst e
    simp only [qO,bT.wants,h,bT.site,vT h]
    cases w <;> rfl
   ·rename_i e
    simp only [qO,bT.wants,h,bT.site,dV,cQ]
    cases w <;> cases b <;> simp_all [uM]
  ·simp only [qO,bT.wants,bT.site,vT h]
 | none=>simp only [bO,qO,bT.wants,bT.site,vT h]
theorem A5 {s:St} {d:Option Nat} {v:V} {wr:List (Nat × Option aX)} {t:Nat} (h:¬ d = some t):(s.put d v wr).get t = s.get t:=by
 cases d with
 | none=>rfl
 | some a =>
  show lk ((a,v) :: s.fr) .any t = lk s.fr .any t
  have:¬ t = a:=fun e=>h (by rw [e])
  simp [lk,this]
theorem YA {C:Nat→List D→Option D} {o:bT} {s s' : St} {t:Nat} (h:¬ o.dst = some t) (e:qO C o s = some s'):s'.get t = s.get t:=by
 unfold qO at e
 split at e
 ·split at e
  ·cases e; exact A5 h
  ·cases e
 ·cases e; exact A5 h
 ·cases e
theorem HH {C:Nat→List D→Option D} {t:Nat} {b:Bool}:∀ (l:List bT) {s:St} (h:s.get t = .d (.bool b)),lF C (bM t b l) s = lF C l s
 | [],s,h=>rfl
 | o :: l,s,h=>by
  simp only [bM,lF,aAG h]
  cases e:qO C o s with
  | none=>rfl
  | some s' =>
   simp only
   split
   ·rfl
   ·rename_i hd
    exact HH l (by rw [YA hd e]; exact h)
noncomputable def D9 (T:AL) (v:V) (t:Nat) (l:List bT) (s:St) (k:St→Option β):Option β:=match v with
 | .d (.bool b)=>if b = true then tH T (bM t true l) s k else tH T (bM t false l) s k
 | .tup []=>match l with
  | o :: r=>tH T r (s.put o.dst (.tup []) []) k
  | []=>none
 | _=>none
theorem U7 {T:AL} (d:Option Nat) (op:jA) (t:Nat) (w:Bool) (l:List bT) (fr:List (Nat × V)) (bl:List (Nat × Option aX)) (k:St→Option β) :
  tH T (⟨d,op,some (t,w)⟩ :: l) ⟨fr,bl⟩ k = mE fr t fun v=>D9 T v t (⟨d,op,some (t,w)⟩ :: l) ⟨fr,bl⟩ k:=by
 show _ = D9 T (lk fr .any t) t _ _ k
 generalize hv:lk fr .any t = v
 have bad:∀ (q:uM v w = .bad),tH T (⟨d,op,some (t,w)⟩ :: l) ⟨fr,bl⟩ k = none:=by
  intro q
  unfold tH
  simp only [lF,qO,bT.wants]
  rw [show (St.get ⟨fr,bl⟩ t) = v from hv,q]; rfl
 cases v with
 | d x =>
  cases x with
  | bool b =>
   simp only [D9]
   cases b with
   | true=>rw [if_pos rfl]; unfold tH; rw [HH (t:=t) (b:=true) (s:=⟨fr,bl⟩) _ hv]
   | false=>rw [if_neg (by decide)]; unfold tH; rw [HH (t:=t) (b:=false) (s:=⟨fr,bl⟩) _ hv]
  | _=>exact bad rfl
 | tup vs =>
  cases vs with
  | nil =>
   simp only [D9]
   unfold tH
   simp only [lF,qO,bT.wants]
   rw [show (St.get ⟨fr,bl⟩ t) = _ from hv]
   rfl
  | cons x l=>exact bad rfl
 | _=>exact bad rfl
theorem aBQ {T:AL} (b:Bool) (t:Nat) (l:List bT) (s:St) (k:St→Option β):D9 T (.d (.bool b)) t l s k = if b = true then tH T (bM t true l) s k else tH T (bM t false l) s k:=rfl
theorem aBp {T:AL} (t d:Nat) (op:jA) (g:Option (Nat × Bool)) (l:List bT) (fr:List (Nat × V)) (bl:List (Nat × Option aX)) (k:St→Option β):D9 T (.tup []) t (⟨some d,op,g⟩ :: l) ⟨fr,bl⟩ k = tH T l ⟨(d,.tup []) :: fr,bl⟩ k:=rfl
theorem YO {T:AL} (t:Nat) (op:jA) (g:Option (Nat × Bool)) (l:List bT) (fr:List (Nat × V)) (bl:List (Nat × Option aX)) (k:St→Option β):D9 T (.tup []) t (⟨none,op,g⟩ :: l) ⟨fr,bl⟩ k = tH T l ⟨fr,bl⟩ k:=rfl
theorem vW {T:AL} {l l' : List bT} {s:St} {k:St→Option β} (h:l = l'):tH T l s k = tH T l' s k:=by rw [h]
section
variable {T:AL} {d:Nat} {fr:List (Nat × V)} {bl:List (Nat × Option aX)} {k:V→Option β} {kw:V→List (Nat × Option aX)→Option β}
def DD (r:EO) (k:V→Option β) (kw:V→List (Nat × Option aX)→Option β):Option β:=match r with
 | none=>none
 | some (v,[])=>k v
 | some (v,p :: wr)=>kw v (p :: wr)
theorem JT (o:Option D):DD (EO.v o) k kw = o.bind fun x=>k (.d x):=by cases o <;> rfl
theorem aBr:sK T d .fail fr bl k kw = none:=rfl
theorem aCE (x:cY):sK T d (.move x) fr bl k kw = dH fr x k:=rfl
theorem aDj (c a b:cY):sK T d (.pick c a b) fr bl k kw = dH fr c fun v=>FP v (dH fr a k) (dH fr b k):=by
 unfold sK dH FP
 simp only [dV]
 generalize cQ (lk fr .any) c = v
 cases v with
 | d x=>cases x with
  | bool b=>cases b <;> rfl
  | _=>rfl
 | _=>rfl
theorem aEU (x y:Option β):FP (.d (.bool true)) x y = x:=rfl
theorem aE7 (x y:Option β):FP (.d (.bool false)) x y = y:=rfl
def vJ (b:Option aX) (x:Option β):Option β:=match b with
 | none=>x
 | some _=>none
theorem aFb (x:Option β):vJ none x = x:=rfl
theorem aEq (b:aX) (x:Option β):vJ (some b) x = none:=rfl
theorem YB (z:List V):sK T d (.alloc z) fr bl k kw = eD bl d fun b=>vJ b (kw (.ptr d 0) [(d,some (.box z))]):=by
 unfold sK eD vJ
 simp only [dV]
 cases lk bl none d <;> rfl
def tJ (v:V) (k:List V→Option β):Option β:=if v.known = true then k v.cells else none
theorem aAW (x:D) (k:List V→Option β):tJ (.d x) k = k [.d x]:=rfl
theorem U6 (k:List V→Option β):tJ .nil k = k [.nil]:=rfl
theorem UM (cs:List V) (k:List V→Option β):tJ (.agg cs) k = k cs:=rfl
theorem QG (ds:List D) (k:List V→Option β):tJ (cW ds) k = k (aC ds):=rfl
theorem SR (i o:Nat) (k:List V→Option β):tJ (.ptr i o) k = k [.ptr i o]:=rfl
theorem SJ (i o:Nat) (k:List V→Option β):tJ (.own i o) k = k [.own i o]:=rfl
theorem PT (i v j o:Nat) (k:List V→Option β):tJ (.orow i v j o) k = k [.orow i v j o]:=rfl
theorem SM (k:List V→Option β):tJ .any k = none:=rfl
theorem aEQ (x:cY):sK T d (.box x) fr bl k kw = eD bl d fun b=>vJ b (dH fr x fun v=>tJ v fun cs=>kw (.ptr d 0) [(d,some (.box cs))]):=by
 unfold sK eD vJ dH tJ
 simp only [dV]
 cases lk bl none d with
 | none =>
  simp only
  by_cases h:(cQ (lk fr .any) x).known = true
  ·rw [if_pos h,if_pos h]
  ·rw [if_neg h,if_neg h]
 | some b=>rfl
def HR (fr:List (Nat × V)):List cY→(List V→Option β)→Option β
 | [],k=>k []
 | x :: l,k=>dH fr x fun v=>HR fr l fun vs=>k (v :: vs)
theorem PM (l:List cY) (k:List V→Option β):HR fr l k = k (l.map (cQ (lk fr .any))):=by
 induction l generalizing k with
 | nil=>rfl
 | cons x l ih=>simp only [HR,dH,ih,List.map_cons]
theorem YI (k:List V→Option β):HR fr [] k = k []:=rfl
theorem UJ (x:cY) (l:List cY) (k:List V→Option β):HR fr (x :: l) k = dH fr x fun v=>HR fr l fun vs=>k (v :: vs):=rfl
def EC (fr:List (Nat × V)):List (Nat × Nat × cY)→(List (Nat × Nat × V)→Option β)→Option β
 | [],k=>k []
 | (o,s,x) :: l,k=>dH fr x fun v=>EC fr l fun vs=>k ((o,s,v) :: vs)
theorem jH (op:jA):sK T d op fr bl k kw = DD (dV (call T) d (cQ (lk fr .any)) (lk bl none) op) k kw:=by
 unfold sK DD
 cases dV (call T) d (cQ (lk fr .any)) (lk bl none) op with
 | none=>rfl
 | some r=>obtain ⟨v,wr⟩:=r; cases wr <;> rfl
theorem yZ (r:EO):DD r k kw = BS r fun v wr=>match wr with | []=>k v | p :: w=>kw v (p :: w):=by
 cases r with
 | none=>rfl
 | some r=>obtain ⟨v,wr⟩:=r; cases wr <;> rfl
def xT:List V→Nat→(V→Option β)→Option β
 | [],_,_=>none
 | c :: _,0,k=>k c
 | _ :: cs,n + 1,k=>xT cs n k
theorem FY (cs:List V) (n:Nat) (k:V→Option β):xT cs n k = cs[n]?.bind k:=by
 induction cs generalizing n with
 | nil=>rfl
 | cons c cs ih=>cases n with
  | zero=>rfl
  | succ n=>simp only [xT,ih,List.getElem?_cons_succ]
theorem aGh (c:V) (cs:List V) (k:V→Option β):xT (c :: cs) 0 k = k c:=rfl
theorem aEj (c:V) (cs:List V) (n:Nat) (k:V→Option β):xT (c :: cs) (n + 1) k = xT cs n k:=rfl
def bK (ds:List D) (n:Nat) (k:D→Option β):Option β:=ds[n]?.bind k
def iH (ds:List D) (off size:Nat) (k:List D→Option β):Option β:=if off + size ≤ ds.length then k ((ds.drop off).take size) else none
def rB (cs:List V) (off size:Nat) (k:List V→Option β):Option β:=if off + size ≤ cs.length then k ((cs.drop off).take size) else none
theorem VU (ds:List D) (n:Nat) (k:V→Option β):xT (aC ds) n k = bK ds n fun x=>k (.d x):=by
 rw [FY]
 unfold aC bK
 rw [List.getElem?_map]
 cases ds[n]? <;> rfl
theorem X2 (cs:List V) (n:Nat) (k:List V→Option β) (h:cs.length = n):rB cs 0 n k = k cs:=by
 subst h
 simp [rB]
theorem TW (c:V) (cs:List V) (off n:Nat) (k:List V→Option β):rB (c :: cs) (off + 1) n k = rB cs off n k:=by
 unfold rB
 simp only [List.length_cons,List.drop_succ_cons]
 by_cases h:off + n ≤ cs.length
 ·rw [if_pos h,if_pos (by omega)]
 ·rw [if_neg h,if_neg (by omega)]
theorem US (c:V) (cs:List V) (n:Nat) (k:List V→Option β):rB (c :: cs) 0 (n + 1) k = rB cs 0 n fun l=>k (c :: l):=by
 unfold rB
 simp only [List.length_cons,List.drop_zero,List.take_succ_cons]
 by_cases h:0 + n ≤ cs.length
 ·rw [if_pos h,if_pos (by omega)]
 ·rw [if_neg h,if_neg (by omega)]
theorem R0 (cs:List V) (k:List V→Option β):rB cs 0 0 k = k []:=by simp [rB]
theorem N9 (ds:List D) (off n:Nat) (k:List V→Option β):rB (aC ds) off n k = iH ds off n fun l=>k (aC l):=by
 unfold rB iH aC
 simp only [List.length_map,List.map_take,List.map_drop]
def AW (size:Nat) (isAgg:Bool) (off:Nat) (b:Option aX) (k:V→Option β):Option β:=match b with
 | some (.box cs)=>if isAgg = true then rB cs off size fun l=>k (.agg l) else xT cs off k
 | some (.fbox row)=>if isAgg = true then iH row off size fun l=>k (cW l) else bK row off fun x=>k (.d x)
 | _=>none
def JR (size:Nat) (isAgg:Bool) (ver i off:Nat) (b:Option aX) (k:V→Option β):Option β:=match b with
 | some (.rows v e sz rows)=>if ver = v then rows[i]?.bind fun row=>(if isAgg = true then iH row off size fun l=>k (cW l) else bK row off fun x=>k (.d x)) else none
 | _=>none
def vX (size:Nat) (isAgg:Bool) (x:V) (bl:List (Nat × Option aX)) (k:V→Option β):Option β:=match x with
 | .ptr id off=>eD bl id fun b=>AW size isAgg off b k
 | .d (.ptr row off)=>if isAgg = true then iH row off size fun l=>k (cW l) else bK row off fun x=>k (.d x)
 | .orow id ver i off=>eD bl id fun b=>JR size isAgg ver i off b k
 | _=>none
theorem PG (size:Nat) (isAgg:Bool) (x:cY):sK T d (.load size isAgg x) fr bl k kw = dH fr x fun v=>vX size isAgg v bl k:=by
 rw [jH,E9]
 unfold dH
 generalize cQ (lk fr .any) x = v
 have hD:∀ row off,DD (PZ size isAgg off row) k kw = if isAgg = true then iH row off size fun l=>k (cW l) else bK row off fun x=>k (.d x):=by
  intro row off
  unfold PZ
  cases isAgg with
  | true=>simp only [if_true,iH]; split <;> rfl
  | false=>simp only [Bool.false_eq_true,if_false,bK]; cases row[off]? <;> rfl
 cases v with
 | ptr id off =>
  rw [ZL]
  simp only [vX,eD]
  generalize lk bl none id = b
  cases b with
  | none=>rfl
  | some b=>cases b with
   | box cs =>
    cases isAgg with
    | true=>simp only [aD5,AW,if_true,rB]; split <;> rfl
    | false=>simp only [aEc,AW,Bool.false_eq_true,if_false,FY]; cases cs[off]? <;> rfl
   | fbox row=>exact hD row off
   | _=>rfl
 | d x=>cases x with
  | ptr row off=>exact hD row off
  | _=>rfl
 | orow id ver i off =>
  rw [aGv]
  simp only [vX,eD]
  generalize lk bl none id = b
  cases b with
  | none=>rfl
  | some b=>cases b with
   | rows v e sz rows =>
    simp only [aDW,JR]
    split
    ·cases rows[i]? with
     | none=>rfl
     | some row=>exact hD row off
    ·rfl
   | _=>rfl
 | _=>rfl
theorem XJ (size:Nat) (isAgg:Bool) (id off:Nat):vX size isAgg (.ptr id off) bl k = eD bl id fun b=>AW size isAgg off b k:=rfl
theorem aCk (size:Nat) (row:List D) (off:Nat):vX size true (.d (.ptr row off)) bl k = iH row off size fun l=>k (cW l):=rfl
theorem aAX (size:Nat) (row:List D) (off:Nat):vX size false (.d (.ptr row off)) bl k = bK row off fun x=>k (.d x):=rfl
theorem aFl (size:Nat) (isAgg:Bool) (id ver i off:Nat):vX size isAgg (.orow id ver i off) bl k = eD bl id fun b=>JR size isAgg ver i off b k:=rfl
theorem XB (size off:Nat) (row:List D):AW size true off (some (.fbox row)) k = iH row off size fun l=>k (cW l):=rfl
theorem ZD (size off:Nat) (row:List D):AW size false off (some (.fbox row)) k = bK row off fun x=>k (.d x):=rfl
theorem aB9 (size off:Nat) (cs:List V):AW size false off (some (.box cs)) k = xT cs off k:=rfl
theorem aCs (size off:Nat) (c:V) (cs:List V):AW size true off (some (.box (c :: cs))) k = rB (c :: cs) off size fun l=>k (.agg l):=rfl
theorem aBM (size off:Nat) (ds:List D):AW size true off (some (.box (aC ds))) k = iH ds off size fun l=>k (cW l):=by
 show rB (aC ds) off size (fun l=>k (.agg l)) = _
 rw [N9]; rfl
theorem PX {α:Type} (size:Nat) (isAgg:Bool) (v i off e sz:Nat) (c:α→List D) (xs:List α):JR size isAgg v i off (some (.rows v e sz (cM c xs))) k = xs[i]?.bind fun x=>vX size isAgg (.d (.ptr (c x) off)) [] k:=by
 simp only [JR,if_true,cM,List.getElem?_map]
 cases xs[i]? <;> rfl
def wJ:List V→Nat→V→(List V→Option β)→Option β
 | [],_,_,_=>none
 | _ :: cs,0,v,k=>k (v :: cs)
 | c :: cs,n + 1,v,k=>wJ cs n v fun l=>k (c :: l)
theorem RI (cs:List V) (n:Nat) (v:V) (k:List V→Option β):wJ cs n v k = if n + 1 ≤ cs.length then k (gJ cs n [v]) else none:=by
 induction cs generalizing n k with
 | nil=>rfl
 | cons c cs ih=>cases n with
  | zero=>rw [if_pos (by simp)]; cases cs <;> rfl
  | succ n =>
   simp only [wJ,ih,gJ,List.length_cons]
   by_cases h:n + 1 ≤ cs.length
   ·rw [if_pos h,if_pos (by omega)]
   ·rw [if_neg h,if_neg (by omega)]
theorem aF5 (c:V) (cs:List V) (v:V) (k:List V→Option β):wJ (c :: cs) 0 v k = k (v :: cs):=rfl
theorem aGy (c:V) (cs:List V) (n:Nat) (v:V) (k:List V→Option β):wJ (c :: cs) (n + 1) v k = wJ cs n v fun l=>k (c :: l):=rfl
def dA (cs:List V) (off:Nat) (ws:List V) (k:List V→Option β):Option β:=if off + ws.length ≤ cs.length then k (gJ cs off ws) else none
theorem MX {α:Type} (l:List α) (n:Nat):gJ l n [] = l:=by cases l <;> rfl
theorem RA (c:V) (cs:List V) (off:Nat) (ws:List V) (k:List V→Option β) (hw:ws ≠ []):dA (c :: cs) (off + 1) ws k = dA cs off ws fun l=>k (c :: l):=by
 unfold dA
 cases ws with
 | nil=>exact absurd rfl hw
 | cons w ws =>
  simp only [List.length_cons,gJ]
  by_cases h:off + (ws.length + 1) ≤ cs.length
  ·rw [if_pos h,if_pos (by omega)]
  ·rw [if_neg h,if_neg (by omega)]
theorem S5 (c:V) (cs:List V) (w:V) (ws:List V) (k:List V→Option β):dA (c :: cs) 0 (w :: ws) k = dA cs 0 ws fun l=>k (w :: l):=by
 unfold dA
 simp only [List.length_cons,gJ]
 by_cases h:0 + ws.length ≤ cs.length
 ·rw [if_pos h,if_pos (by omega)]
 ·rw [if_neg h,if_neg (by omega)]
theorem TQ (cs:List V) (k:List V→Option β):dA cs 0 [] k = k cs:=by simp [dA,MX]
def aP (size off id:Nat) (v:V) (b:Option aX) (kw:V→List (Nat × Option aX)→Option β):Option β:=match b with
 | some (.box cs)=>if v.cells.length = size ∧ off + size ≤ cs.length ∧ v.known = true then kw .any [(id,some (.box (gJ cs off v.cells)))] else none
 | _=>none
def F0 (size ver i off id:Nat) (v:V) (bl:List (Nat × Option aX)) (b:Option aX) (kw:V→List (Nat × Option aX)→Option β):Option β:=BS (KA size ver i off id (rS (lk bl none) v) (bI (j7 (lk bl none)) v.cells) b) kw
def JK (size:Nat) (p v:V) (bl:List (Nat × Option aX)) (kw:V→List (Nat × Option aX)→Option β):Option β:=match p with
 | .ptr id off=>eD bl id fun b=>aP size off id v b kw
 | .orow id ver i off=>eD bl id fun b=>F0 size ver i off id v bl b kw
 | _=>none
theorem YV (size:Nat) (x v:cY):sK T d (.store size x v) fr bl k kw = dH fr x fun p=>dH fr v fun w=>JK size p w bl kw:=by
 rw [jH,YG]
 unfold dH
 generalize cQ (lk fr .any) x = p
 generalize cQ (lk fr .any) v = w
 cases p with
 | ptr id off =>
  rw [aDA]
  simp only [JK,eD]
  generalize lk bl none id = b
  cases b with
  | none=>rfl
  | some b=>cases b with
   | box cs =>
    simp only [VE,aP]
    by_cases h:w.cells.length = size ∧ off + size ≤ cs.length ∧ w.known = true
    ·rw [if_pos h,if_pos h]; rfl
    ·rw [if_neg h,if_neg h]; rfl
   | _=>rfl
 | orow id ver i off =>
  rw [aDQ]
  simp only [JK,eD,F0]
  rw [yZ]
  generalize lk bl none id = b
  cases b with
  | none=>rfl
  | some b=>cases b with
   | rows v e sz rows =>
    simp only [KA]
    by_cases h:ver = v
    ·rw [if_pos h]
     cases rows[i]? with
     | none=>rfl
     | some row =>
      cases bI (j7 (lk bl none)) w.cells with
      | none=>rfl
      | some ds =>
       simp only
       split <;> rfl
    ·rw [if_neg h]; rfl
   | _=>rfl
 | _=>rfl
theorem aBl (size id off:Nat) (v:V):JK size (.ptr id off) v bl kw = eD bl id fun b=>aP size off id v b kw:=rfl
theorem aCG (size id ver i off:Nat) (v:V):JK size (.orow id ver i off) v bl kw = eD bl id fun b=>F0 size ver i off id v bl b kw:=rfl
theorem CW (off id:Nat) (w c:V) (cs:List V) (hw:w.one = true) (hk:w.known = true):aP 1 off id w (some (.box (c :: cs))) kw = wJ (c :: cs) off w fun l=>kw .any [(id,some (.box l))]:=by
 have hc:w.cells = [w]:=by cases w <;> first | rfl | cases hw
 rw [RI]
 simp only [aP,hc,hk]
 by_cases h:off + 1 ≤ (c :: cs).length
 ·rw [if_pos h,if_pos ⟨rfl,h,trivial⟩]
 ·rw [if_neg h,if_neg (fun q=>h q.2.1)]
theorem ZR (off id:Nat) (x:D) (c:V) (cs:List V):aP 1 off id (.d x) (some (.box (c :: cs))) kw = wJ (c :: cs) off (.d x) fun l=>kw .any [(id,some (.box l))]:=CW off id _ c cs rfl rfl
theorem P9 (off id:Nat) (c:V) (cs:List V):aP 1 off id .nil (some (.box (c :: cs))) kw = wJ (c :: cs) off .nil fun l=>kw .any [(id,some (.box l))]:=CW off id _ c cs rfl rfl
theorem RL (off id i v:Nat) (c:V) (cs:List V):aP 1 off id (.own i v) (some (.box (c :: cs))) kw = wJ (c :: cs) off (.own i v) fun l=>kw .any [(id,some (.box l))]:=CW off id _ c cs rfl rfl
theorem RG (off id i v:Nat) (c:V) (cs:List V):aP 1 off id (.ptr i v) (some (.box (c :: cs))) kw = wJ (c :: cs) off (.ptr i v) fun l=>kw .any [(id,some (.box l))]:=CW off id _ c cs rfl rfl
def kZ (cs:List V) (n:Nat) (x:Option β):Option β:=if cs.length = n then x else none
theorem aEK (x:Option β):kZ [] 0 x = x:=rfl
theorem aGX (c:V) (cs:List V) (n:Nat) (x:Option β):kZ (c :: cs) (n + 1) x = kZ cs n x:=by
 unfold kZ
 simp only [List.length_cons]
 by_cases h:cs.length = n
 ·rw [if_pos h,if_pos (by omega)]
 ·rw [if_neg h,if_neg (by omega)]
theorem Q3 (size off id:Nat) (ws:List V) (c:V) (cs:List V):aP size off id (.agg ws) (some (.box (c :: cs))) kw = kZ ws size (dA (c :: cs) off ws fun l=>kw .any [(id,some (.box l))]):=by
 unfold kZ dA
 show (if ws.length = size ∧ off + size ≤ (c :: cs).length ∧ V.known (.agg ws) = true then kw .any [(id,some (.box (gJ (c :: cs) off ws)))] else none) = _
 by_cases h:ws.length = size
 ·subst h
  rw [if_pos rfl]
  by_cases h:off + ws.length ≤ (c :: cs).length
  ·rw [if_pos h,if_pos ⟨rfl,h,rfl⟩]
  ·rw [if_neg h,if_neg (fun q=>h q.2.1)]
 ·rw [if_neg h,if_neg (fun q=>h q.1)]
theorem M8 {α:Type}:∀ (l m:List α),l.length = m.length→gJ l 0 m = m
 | [],[],_=>rfl
 | _ :: l,x :: m,h=>by
  simp only [gJ]
  rw [M8 l m (by simpa using h)]
 | [],_ :: _,h=>by simp at h
 | _ :: _,[],h=>by simp at h
theorem cN (n id:Nat) (ds:List D) (hd:ds.length = n) (cs:List V) (hc:cs.length = n):aP n 0 id (cW ds) (some (.box cs)) kw = kw .any [(id,some (.box (aC ds)))]:=by
 have e:(aC ds).length = n:=by rw [← hd]; simp [aC]
 show (if (aC ds).length = n ∧ 0 + n ≤ cs.length ∧ V.known (cW ds) = true then kw .any [(id,some (.box (gJ cs 0 (aC ds))))] else none) = _
 rw [if_pos ⟨e,by omega,rfl⟩,M8 _ _ (by rw [hc,e])]
def aDt (v:V) (bl:List (Nat × Option aX)) (k:V→Option β):Option β:=match v with
 | .ptr id off=>k (.ptr id off)
 | .d (.ptr row off)=>k (.d (.ptr row off))
 | .orow id ver i off=>eD bl id fun b=>match b with
  | some (.rows v _ _ _)=>if ver = v then k (.orow id ver i off) else none
  | _=>none
 | _=>none
theorem NQ (x:cY):sK T d (.nilCheck x) fr bl k kw = dH fr x fun v=>aDt v bl k:=by
 unfold sK dH
 simp only [dV]
 generalize cQ (lk fr .any) x = v
 cases v with
 | d x=>cases x <;> rfl
 | orow id ver i off =>
  simp only [aDt,eD]
  generalize lk bl none id = b
  cases b with
  | none=>rfl
  | some b=>cases b with
   | rows v e s rows=>simp only; by_cases h:ver = v <;> simp [h]
   | _=>rfl
 | _=>rfl
theorem aIw (id off:Nat):aDt (.ptr id off) bl k = k (.ptr id off):=rfl
theorem aHL (row:List D) (off:Nat):aDt (.d (.ptr row off)) bl k = k (.d (.ptr row off)):=rfl
def RV (id ver i off:Nat) (b:Option aX) (k:V→Option β):Option β:=match b with
 | some (.rows v _ _ _)=>if ver = v then k (.orow id ver i off) else none
 | _=>none
theorem aH7 (id ver i off:Nat):aDt (.orow id ver i off) bl k = eD bl id fun b=>RV id ver i off b k:=rfl
theorem aFF (id ver i off e s:Nat) (rows:List (List D)):RV id ver i off (some (.rows ver e s rows)) k = k (.orow id ver i off):=if_pos rfl
def faK (off:Nat) (v:V) (bl:List (Nat × Option aX)) (k:V→Option β):Option β:=match v with
 | .ptr id o=>k (.ptr id (o + off))
 | .d (.ptr row o)=>k (.d (.ptr row (o + off)))
 | .orow id ver i o=>eD bl id fun b=>RV id ver i (o + off) b k
 | _=>none
theorem L8 (off:Nat) (x:cY):sK T d (.fieldAddr off x) fr bl k kw = dH fr x fun v=>faK off v bl k:=by
 unfold sK dH
 simp only [dV]
 generalize cQ (lk fr .any) x = v
 cases v with
 | d x=>cases x <;> rfl
 | orow id ver i o =>
  simp only [faK,eD]
  generalize lk bl none id = b
  cases b with
  | none=>rfl
  | some b=>cases b with
   | rows v e s rows=>simp only [RV]; by_cases h:ver = v <;> simp [h]
   | _=>rfl
 | _=>rfl
theorem aJV (off id o:Nat):faK off (.ptr id o) bl k = k (.ptr id (o + off)):=rfl
theorem aJY (off:Nat) (row:List D) (o:Nat):faK off (.d (.ptr row o)) bl k = k (.d (.ptr row (o + off))):=rfl
theorem aKa (off id ver i o:Nat):faK off (.orow id ver i o) bl k = eD bl id fun b=>RV id ver i (o + off) b k:=rfl
def nO (c:Nat) (op:BinOp) (a b:V) (k:V→Option β):Option β:=(v9 c op a b).bind fun x=>k (.d x)
theorem aG2 (c:Nat) (op:BinOp) (x y:cY):sK T d (.bin c op x y) fr bl k kw = dH fr x fun a=>dH fr y fun b=>nO c op a b k:=by
 rw [jH]
 exact JT _
section
variable (kd:IntKind) (x y:Int)
theorem aDM:nO 0 .add (.d (.int kd x)) (.d (.int kd y)) k = k (.d (.int kd (IntKind.wrap kd (x + y)))):=by simp [nO,v9,m0]
theorem aBi:nO 0 .sub (.d (.int kd x)) (.d (.int kd y)) k = k (.d (.int kd (IntKind.wrap kd (x - y)))):=by simp [nO,v9,m0]
theorem aBG:nO 0 .mul (.d (.int kd x)) (.d (.int kd y)) k = k (.d (.int kd (IntKind.wrap kd (x * y)))):=by simp [nO,v9,m0]
theorem aCC:nO 0 .quo (.d (.int kd x)) (.d (.int kd y)) k = if y = 0 then none else k (.d (.int kd (IntKind.wrap kd (x.tdiv y)))):=by
 simp only [nO,v9,m0,if_true]; split <;> rfl
theorem aBS:nO 0 .rem (.d (.int kd x)) (.d (.int kd y)) k = if y = 0 then none else k (.d (.int kd (x.tmod y))):=by
 simp only [nO,v9,m0,if_true]; split <;> rfl
theorem aCf:nO 0 .eql (.d (.int kd x)) (.d (.int kd y)) k = k (.d (.bool (x == y))):=by simp [nO,v9,m0]
theorem aBT:nO 0 .neq (.d (.int kd x)) (.d (.int kd y)) k = k (.d (.bool (x != y))):=by simp [nO,v9,m0]
theorem aBh:nO 0 .lss (.d (.int kd x)) (.d (.int kd y)) k = k (.d (.bool (decide (x < y)))):=by simp [nO,v9,m0]
theorem aC8:nO 0 .leq (.d (.int kd x)) (.d (.int kd y)) k = k (.d (.bool (decide (x ≤ y)))):=by simp [nO,v9,m0]
theorem aCu:nO 0 .gtr (.d (.int kd x)) (.d (.int kd y)) k = k (.d (.bool (decide (x > y)))):=by simp [nO,v9,m0]
theorem aA4:nO 0 .geq (.d (.int kd x)) (.d (.int kd y)) k = k (.d (.bool (decide (x ≥ y)))):=by simp [nO,v9,m0]
theorem aCY:nO 0 .and (.d (.int kd x)) (.d (.int kd y)) k = k (.d (.int kd (IntKind.wrap kd (BitVec.ofInt (IntKind.bits kd) x &&& BitVec.ofInt (IntKind.bits kd) y).toNat))):=by simp [nO,v9,m0]
theorem aG1:nO 0 .or (.d (.int kd x)) (.d (.int kd y)) k = k (.d (.int kd (IntKind.wrap kd (BitVec.ofInt (IntKind.bits kd) x ||| BitVec.ofInt (IntKind.bits kd) y).toNat))):=by simp [nO,v9,m0]
theorem aBs:nO 0 .xor (.d (.int kd x)) (.d (.int kd y)) k = k (.d (.int kd (IntKind.wrap kd (BitVec.ofInt (IntKind.bits kd) x ^^^ BitVec.ofInt (IntKind.bits kd) y).toNat))):=by simp [nO,v9,m0]
end
section
variable (x y:ByteArray)
theorem aAC:nO 0 .eql (.d (.str x)) (.d (.str y)) k = k (.d (.bool (x.toList == y.toList))):=rfl
theorem XH:nO 0 .neq (.d (.str x)) (.d (.str y)) k = k (.d (.bool !(x.toList == y.toList))):=rfl
theorem ZX:nO 0 .lss (.d (.str x)) (.d (.str y)) k = k (.d (.bool (Op.bytesLess x.toList y.toList))):=rfl
theorem aAr:nO 0 .leq (.d (.str x)) (.d (.str y)) k = k (.d (.bool (Op.bytesLess x.toList y.toList || x.toList == y.toList))):=rfl
theorem aAz:nO 0 .gtr (.d (.str x)) (.d (.str y)) k = k (.d (.bool !(Op.bytesLess x.toList y.toList || x.toList == y.toList))):=rfl
theorem YS:nO 0 .geq (.d (.str x)) (.d (.str y)) k = k (.d (.bool !(Op.bytesLess x.toList y.toList))):=rfl
end
theorem X7 (x y:Bool):nO 1 .eql (.d (.bool x)) (.d (.bool y)) k = k (.d (.bool (x == y))):=rfl
theorem XR (x y:Bool):nO 1 .neq (.d (.bool x)) (.d (.bool y)) k = k (.d (.bool !(x == y))):=rfl
def K5 (o:Option D) (k:V→Option β):Option β:=o.bind fun x=>k (.d x)
theorem wI {o o' : Option D} {k:V→Option β} (h:o = o'):K5 o k = K5 o' k:=by rw [h]
theorem Y3 (x:D):K5 (some x) k = k (.d x):=rfl
theorem ZF:K5 none k = none:=rfl
theorem aEA (ks:List Nat) (neg:Bool) (x y:cY):sK T d (.eqS ks neg x y) fr bl k kw = dH fr x fun a=>dH fr y fun b=>K5 (eqV ks neg a b) k:=by
 rw [jH]
 exact JT _
def dG:List Nat→List V→List V→(Bool→Option β)→Option β:=fun ks xs ys k=>match eC ks xs ys with
 | some b=>k b
 | none=>none
def LK (ks:List Nat) (neg:Bool) (a b:V) (k:V→Option β):Option β:=match a,b with
 | .agg xs,.agg ys=>dG ks xs ys fun b=>k (.d (.bool (if neg then !b else b)))
 | _,_=>none
theorem aGV (ks:List Nat) (neg:Bool) (x y:cY):sK T d (.eqS ks neg x y) fr bl k kw = dH fr x fun a=>dH fr y fun b=>LK ks neg a b k:=by
 rw [aEA]
 unfold dH
 generalize cQ (lk fr .any) x = a
 generalize cQ (lk fr .any) y = b
 cases a with
 | agg xs=>cases b with
  | agg ys =>
   simp only [eqV,LK,dG,K5]
   cases eC ks xs ys <;> rfl
  | _=>rfl
 | _=>cases b <;> rfl
section
variable {k:V→Option β}
theorem aBU (ks:List Nat) (xs ys:List V):LK ks true (.agg xs) (.agg ys) k = dG ks xs ys fun b=>k (.d (.bool !b)):=rfl
theorem aBY (ks:List Nat) (xs ys:List V):LK ks false (.agg xs) (.agg ys) k = dG ks xs ys fun b=>k (.d (.bool b)):=rfl
theorem aCp (ks:List Nat) (xs:List D) (ys:List V):LK ks true (cW xs) (.agg ys) k = dG ks (aC xs) ys fun b=>k (.d (.bool !b)):=rfl
theorem aCc (ks:List Nat) (xs:List D) (ys:List V):LK ks false (cW xs) (.agg ys) k = dG ks (aC xs) ys fun b=>k (.d (.bool b)):=rfl
theorem aCU (ks:List Nat) (xs:List V) (ys:List D):LK ks true (.agg xs) (cW ys) k = dG ks xs (aC ys) fun b=>k (.d (.bool !b)):=rfl
theorem aAU (ks:List Nat) (xs:List V) (ys:List D):LK ks false (.agg xs) (cW ys) k = dG ks xs (aC ys) fun b=>k (.d (.bool b)):=rfl
theorem aCz (ks:List Nat) (xs ys:List D):LK ks true (cW xs) (cW ys) k = dG ks (aC xs) (aC ys) fun b=>k (.d (.bool !b)):=rfl
theorem aDz (ks:List Nat) (xs ys:List D):LK ks false (cW xs) (cW ys) k = dG ks (aC xs) (aC ys) fun b=>k (.d (.bool b)):=rfl
end
section
variable {k:Bool→Option β}
theorem aFZ (kd:IntKind) (x y:Int):dG [0] [.d (.int kd x)] [.d (.int kd y)] k = k (x == y):=by simp [dG,eC,rK]
theorem aEx (x y:Bool):dG [1] [.d (.bool x)] [.d (.bool y)] k = k (x == y):=by simp [dG,eC,rK]
theorem aFv (x y:ByteArray):dG [2] [.d (.str x)] [.d (.str y)] k = k (x == y):=by simp [dG,eC,rK]
theorem aIx (kd:IntKind) (x y:Int) (c:Nat) (ks:List Nat) (xs ys:List V):dG (0 :: c :: ks) (.d (.int kd x) :: xs) (.d (.int kd y) :: ys) k = dG (c :: ks) xs ys fun b=>k ((x == y) && b):=by
 simp only [dG,eC,rK,if_true]
 cases eC (c :: ks) xs ys <;> rfl
theorem aIT (x y:Bool) (c:Nat) (ks:List Nat) (xs ys:List V):dG (1 :: c :: ks) (.d (.bool x) :: xs) (.d (.bool y) :: ys) k = dG (c :: ks) xs ys fun b=>k ((x == y) && b):=by
 simp only [dG,eC,rK]
 cases eC (c :: ks) xs ys <;> rfl
theorem aIR (x y:ByteArray) (c:Nat) (ks:List Nat) (xs ys:List V):dG (2 :: c :: ks) (.d (.str x) :: xs) (.d (.str y) :: ys) k = dG (c :: ks) xs ys fun b=>k ((x == y) && b):=by
 simp only [dG,eC,rK]
 cases eC (c :: ks) xs ys <;> rfl
end
def aAS (kd:IntKind) (x:Int):List V→(V→Option β)→Option β:=fun l k=>K5 (VJ kd x l) k
def aBy (kd:IntKind) (x:Int):List V→(V→Option β)→Option β:=fun l k=>K5 (TD kd x l) k
def aHk (l:List V) (k:V→Option β):Option β:=K5 (aFW l) k
def aHy (l:List V) (k:V→Option β):Option β:=K5 (aGL l) k
theorem aF7 (l:List cY):sK T d (.max l) fr bl k kw = HR fr l fun vs=>aHk vs k:=by
 rw [jH,PM]
 exact JT _
theorem aD8 (l:List cY):sK T d (.min l) fr bl k kw = HR fr l fun vs=>aHy vs k:=by
 rw [jH,PM]
 exact JT _
section
variable {k:V→Option β}
theorem aGu (kd:IntKind) (x:Int) (l:List V):aHk (.d (.int kd x) :: l) k = aAS kd x l k:=rfl
theorem aGq (kd:IntKind) (x:Int) (l:List V):aHy (.d (.int kd x) :: l) k = aBy kd x l k:=rfl
theorem aDD (kd:IntKind) (x:Int):aAS kd x [] k = k (.d (.int kd x)):=rfl
theorem aCo (kd:IntKind) (x:Int):aBy kd x [] k = k (.d (.int kd x)):=rfl
theorem X1 (kd:IntKind) (x y:Int) (l:List V):aAS kd x (.d (.int kd y) :: l) k = aAS kd (if y > x then y else x) l k:=by simp [aAS,VJ]
theorem Z7 (kd:IntKind) (x y:Int) (l:List V):aBy kd x (.d (.int kd y) :: l) k = aBy kd (if y < x then y else x) l k:=by simp [aBy,TD]
end
def unK (op:UnOp) (v:V) (k:V→Option β):Option β:=K5 (unV op v) k
theorem aHU (op:UnOp) (x:cY):sK T d (.un op x) fr bl k kw = dH fr x fun a=>unK op a k:=by
 rw [jH]
 exact JT _
theorem aG4 (b:Bool):unK .not (.d (.bool b)) k = k (.d (.bool !b)):=rfl
theorem aFA (kd:IntKind) (n:Int):unK .neg (.d (.int kd n)) k = k (.d (.int kd (IntKind.wrap kd (0 - n)))):=rfl
def aHC (kd:IntKind) (v:V) (k:V→Option β):Option β:=match v with
 | .d (.int _ n)=>k (.d (.int kd (IntKind.wrap kd n)))
 | _=>none
theorem aDb (kd:IntKind) (x:cY):sK T d (.conv kd x) fr bl k kw = dH fr x fun a=>aHC kd a k:=by
 unfold sK dH
 simp only [dV]
 generalize cQ (lk fr .any) x = v
 cases v with
 | d x=>cases x <;> rfl
 | _=>rfl
theorem aGk (kd kd' : IntKind) (n:Int):aHC kd (.d (.int kd' n)) k = k (.d (.int kd (IntKind.wrap kd n))):=rfl
def kQ (s:ByteArray):List Int:=s.data.toList.map fun b=>(b.toNat:Int)
def T9 (v:V) (k:V→Option β):Option β:=match v with
 | .d (.str s)=>k (.d (.sl (cM (cK .u8) (kQ s))))
 | _=>none
theorem X4 (x:cY):sK T d (.bytes x) fr bl k kw = dH fr x fun a=>T9 a k:=by
 unfold sK dH
 simp only [dV]
 generalize cQ (lk fr .any) x = v
 cases v with
 | d x=>cases x with
  | str s =>
   have:(s.data.toList.map fun b=>[D.int .u8 (b.toNat:Int)]) = cM (cK .u8) (kQ s):=by
    simp only [cM,kQ,List.map_map]
    rfl
   simp only [T9,this]
  | _=>rfl
 | _=>rfl
theorem aBv (s:ByteArray):T9 (.d (.str s)) k = k (.d (.sl (cM (cK .u8) (kQ s)))):=rfl
def DY (v:V) (bl:List (Nat × Option aX)) (k:List (List D)→Option β):Option β:=(iI (lk bl none) v).bind k
def CB (ver:Nat) (b:Option aX) (k:List (List D)→Option β):Option β:=(aDi ver b).bind k
theorem aBx (rows:List (List D)) (k:List (List D)→Option β):DY (.d (.sl rows)) bl k = k rows:=rfl
theorem XD (k:List (List D)→Option β):DY .nil bl k = k []:=rfl
theorem MI (id ver:Nat) (k:List (List D)→Option β):DY (.own id ver) bl k = eD bl id fun b=>CB ver b k:=by
 unfold DY eD CB
 simp only [iI]
 generalize lk bl none id = b
 cases b with
 | none=>rfl
 | some b=>cases b <;> rfl
theorem HP (v e s:Nat) (rows:List (List D)) (k:List (List D)→Option β):CB v (some (.rows v e s rows)) k = k rows:=by simp [CB,aDi]
theorem HS (v:Nat) (rows:List (List D)) (k:List (List D)→Option β):CB v (some (.froz v rows)) k = k rows:=by simp [CB,aDi]
theorem aE2 (x:cY):sK T d (.len x) fr bl k kw = dH fr x fun a=>DY a bl fun rows=>k (.d (.int .i64 rows.length)):=by
 unfold sK dH DY
 simp only [dV]
 cases iI (lk bl none) (cQ (lk fr .any) x) <;> rfl
def aHv (v:V) (k:V→Option β):Option β:=match v with
 | .d (.str s)=>k (.d (.int .i64 s.size))
 | _=>none
theorem aCl (x:cY):sK T d (.lenS x) fr bl k kw = dH fr x fun a=>aHv a k:=by
 unfold sK dH
 simp only [dV]
 generalize cQ (lk fr .any) x = v
 cases v with
 | d x=>cases x <;> rfl
 | _=>rfl
theorem aF8 (s:ByteArray):aHv (.d (.str s)) k = k (.d (.int .i64 s.size)):=rfl
def EB (off size:Nat) (isAgg:Bool) (v:V) (k:V→Option β):Option β:=match v with
 | .agg cs=>if isAgg = true then rB cs off size fun l=>k (.agg l) else xT cs off k
 | _=>none
theorem aAh (off size:Nat) (isAgg:Bool) (x:cY):sK T d (.field off size isAgg x) fr bl k kw = dH fr x fun v=>EB off size isAgg v k:=by
 unfold sK dH
 simp only [dV]
 generalize cQ (lk fr .any) x = v
 cases v with
 | agg cs =>
  cases isAgg with
  | true =>
   simp only [EB,rB,if_true]
   by_cases h:off + size ≤ cs.length
   ·rw [if_pos h,if_pos h]
   ·rw [if_neg h,if_neg h]
  | false=>simp only [EB,FY,Bool.false_eq_true,if_false]; cases cs[off]? <;> rfl
 | _=>rfl
theorem aCd (off size:Nat) (cs:List V):EB off size false (.agg cs) k = xT cs off k:=rfl
theorem aCL (off size:Nat) (cs:List V):EB off size true (.agg cs) k = rB cs off size fun l=>k (.agg l):=rfl
theorem Z8 (off size:Nat) (ds:List D):EB off size false (cW ds) k = bK ds off fun x=>k (.d x):=by
 show xT (aC ds) off k = _
 rw [VU]
theorem aAw (off size:Nat) (ds:List D):EB off size true (cW ds) k = iH ds off size fun l=>k (cW l):=by
 show rB (aC ds) off size (fun l=>k (.agg l)) = _
 rw [N9]; rfl
def hZ (ds:List D) (n:Nat) (x:Option β):Option β:=if ds.length = n then x else none
def aCv (size:Nat) (x i:V) (bl:List (Nat × Option aX)) (k:V→Option β):Option β:=DD (NO size x i (lk bl none)) k fun _ _=>none
theorem aAi {size:Nat} {x i:V} {b:Nat→Option aX} {kw' : V→List (Nat × Option aX)→Option β}:DD (NO size x i b) k kw = DD (NO size x i b) k kw':=by
 have:∀ r,NO size x i b = some r→r.2 = []:=by
  intro r
  unfold NO
  intro e
  repeat' split at e
  all_goals first | cases e; rfl | cases e
 cases h:NO size x i b with
 | none=>rfl
 | some r=>obtain ⟨v,wr⟩:=r; have:=this _ h; dsimp only at this; subst this; rfl
theorem LS (size:Nat) (x i:cY):sK T d (.indexAddr size x i) fr bl k kw = dH fr x fun a=>dH fr i fun b=>aCv size a b bl k:=by
 rw [jH,LL]
 unfold dH aCv
 exact aAi
theorem aEa {α:Type} (size:Nat) (c:α→List D) (xs:List α) (kd:IntKind) (n:Int):aCv size (.d (.sl (cM c xs))) (.d (.int kd n)) bl k = (at? xs n).bind fun x=>hZ (c x) size (k (.d (.ptr (c x) 0))):=by
 unfold aCv
 rw [yZ,aGR]
 rfl
def OZ (size id ver:Nat) (n:Int) (b:Option aX) (k:V→Option β):Option β:=DD (aDx size id ver n b) k fun _ _=>none
theorem aCy (size id ver:Nat) (kd:IntKind) (n:Int):aCv size (.own id ver) (.d (.int kd n)) bl k = eD bl id fun b=>OZ size id ver n b k:=rfl
theorem R8 {α:Type} (size id v e:Nat) (n:Int) (c:α→List D) (xs:List α):OZ size id v n (some (.rows v e size (cM c xs))) k = if 0 ≤ n ∧ n.toNat < xs.length then k (.orow id v n.toNat 0) else none:=by
 unfold OZ
 rw [yZ,XF,if_pos rfl,if_pos rfl,aH]
theorem SB {α:Type} (size id v:Nat) (n:Int) (c:α→List D) (xs:List α):OZ size id v n (some (.froz v (cM c xs))) k = (at? xs n).bind fun x=>hZ (c x) size (k (.d (.ptr (c x) 0))):=by
 unfold OZ
 rw [yZ,ZW,if_pos rfl]
 rfl
def WS (x i:V) (k:V→Option β):Option β:=BS (CC x i) fun v _=>k v
theorem aAB (x i:cY):sK T d (.index x i) fr bl k kw = dH fr x fun a=>dH fr i fun b=>WS a b k:=by
 rw [jH,aAc]
 unfold dH WS
 generalize cQ (lk fr .any) x = a
 generalize cQ (lk fr .any) i = b
 have:∀ r,CC a b = some r→r.2 = []:=by
  intro r
  unfold CC
  intro e
  repeat' split at e
  all_goals first | cases e; rfl | cases e
 show _ = BS (CC a b) fun v _=>k v
 cases h:CC a b with
 | none=>rfl
 | some r=>obtain ⟨v,wr⟩:=r; have:=this _ h; dsimp only at this; subst this; rfl
theorem aGH (s:ByteArray) (kd:IntKind) (n:Int):WS (.d (.str s)) (.d (.int kd n)) k = (sAt s n).bind fun b=>k (.d (.int .u8 b)):=by
 unfold WS
 rw [aDG]
def TE (fr:List (Nat × V)) (o:Option cY) (k:Option V→Option β):Option β:=match o with
 | none=>k none
 | some x=>dH fr x fun v=>k (some v)
theorem aHG (k:Option V→Option β):TE fr none k = k none:=rfl
theorem aHD (x:cY) (k:Option V→Option β):TE fr (some x) k = dH fr x fun v=>k (some v):=rfl
def A0 (size:Nat) (x:V) (lo hi:Option V) (bl:List (Nat × Option aX)) (k:V→Option β) (kw:V→List (Nat × Option aX)→Option β):Option β:=DD (sM (lk bl none) size x lo hi) k kw
theorem aAm (size:Nat) (x:cY) (lo hi:Option cY):sK T d (.slice size x lo hi) fr bl k kw = dH fr x fun a=>TE fr lo fun l=>TE fr hi fun h=>A0 size a l h bl k kw:=by
 rw [jH,aAo]
 cases lo <;> cases hi <;> rfl
section
variable {α:Type} (size:Nat) (c:α→List D) (xs:List α) (hs:sized size (cM c xs) = true)
include hs
theorem CP {lo hi:Option V} {l h:Int} (hl:yG lo 0 = some l) (hh:yG hi (xs.length:Int) = some h):A0 size (.d (.sl (cM c xs))) lo hi bl k kw = if fX xs.length l h then k (.d (.sl (cM c (dE xs l h)))) else none:=by
 unfold A0
 rw [yZ,Y0 _ size c xs lo hi l h hl hh hs]
theorem ZV:A0 size (.d (.sl (cM c xs))) none none bl k kw = if fX xs.length 0 (xs.length:Int) then k (.d (.sl (cM c (dE xs 0 (xs.length:Int))))) else none:=CP size c xs hs rfl rfl
theorem XP (kd:IntKind) (l:Int):A0 size (.d (.sl (cM c xs))) (some (.d (.int kd l))) none bl k kw = if fX xs.length l (xs.length:Int) then k (.d (.sl (cM c (dE xs l (xs.length:Int))))) else none:=CP size c xs hs rfl rfl
theorem aAI (kd:IntKind) (h:Int):A0 size (.d (.sl (cM c xs))) none (some (.d (.int kd h))) bl k kw = if fX xs.length 0 h then k (.d (.sl (cM c (dE xs 0 h)))) else none:=CP size c xs hs rfl rfl
theorem aAa (kd kd' : IntKind) (l h:Int):A0 size (.d (.sl (cM c xs))) (some (.d (.int kd l))) (some (.d (.int kd' h))) bl k kw = if fX xs.length l h then k (.d (.sl (cM c (dE xs l h)))) else none:=CP size c xs hs rfl rfl
end
def LE (e size bytes d:Nat) (x y:V) (bl:List (Nat × Option aX)) (kw:V→List (Nat × Option aX)→Option β):Option β:=DY y bl fun new =>
 if sized size new = true then
   match x with
   | .nil=>eD bl d fun b=>vJ b (if new.length * bytes ≤ 140737488355328 then kw (.own d 0) [(d,some (.rows 0 e size new))] else none)
   | .own id ver=>eD bl id fun b=>match b with
    | some (.rows v e' size' rows)=>if ver = v ∧ e' = e ∧ size' = size ∧ (rows.length + new.length) * bytes ≤ 140737488355328 then kw (.own id (ver + 1)) [(id,some (.rows (ver + 1) e size (rows ++ new)))] else none
    | _=>none
   | _=>none
   else none
theorem SS (e size bytes:Nat) (x y:cY):sK T d (.append e size bytes x y) fr bl k kw = dH fr x fun a=>dH fr y fun b=>LE e size bytes d a b bl kw:=by
 unfold sK dH LE DY eD vJ
 simp only [dV]
 generalize cQ (lk fr .any) x = v
 cases iI (lk bl none) (cQ (lk fr .any) y) with
 | none=>rfl
 | some new =>
  simp only [Option.bind_some]
  by_cases hs:sized size new = true
  ·rw [if_pos hs,if_pos hs]
   cases v with
   | nil =>
    simp only
    cases lk bl none d with
    | none =>
     simp only
     by_cases h:new.length * bytes ≤ 140737488355328
     ·rw [if_pos h,if_pos h]
     ·rw [if_neg h,if_neg h]
    | some b=>rfl
   | own id ver =>
    simp only
    generalize lk bl none id = b
    cases b with
    | none=>rfl
    | some b=>cases b with
     | rows v e' size' rows =>
      simp only
      by_cases h:ver = v ∧ e' = e ∧ size' = size ∧ (rows.length + new.length) * bytes ≤ 140737488355328
      ·rw [if_pos h,if_pos h]
      ·rw [if_neg h,if_neg h]
     | _=>rfl
   | _=>rfl
  ·rw [if_neg hs,if_neg hs]
def JF {α:Type} (e size bytes d:Nat) (x:V) (c:α→List D) (ys:List α) (bl:List (Nat × Option aX)) (kw:V→List (Nat × Option aX)→Option β):Option β:=match x with
   | .nil=>eD bl d fun b=>vJ b (if ys.length * bytes ≤ 140737488355328 then kw (.own d 0) [(d,some (.rows 0 e size (cM c ys)))] else none)
   | .own id ver=>eD bl id fun b=>match b with
    | some (.rows v e' size' rows)=>if ver = v ∧ e' = e ∧ size' = size ∧ (rows.length + ys.length) * bytes ≤ 140737488355328 then kw (.own id (ver + 1)) [(id,some (.rows (ver + 1) e size (rows ++ cM c ys)))] else none
    | _=>none
   | _=>none
theorem YY {α:Type} (e size bytes d:Nat) (x y:V) (c:α→List D) (ys:List α) (hy:∀ k' : List (List D)→Option β,DY y bl k' = k' (cM c ys)) (hs:sized size (cM c ys) = true):LE e size bytes d x y bl kw = JF e size bytes d x c ys bl kw:=by
 unfold LE JF
 rw [hy,if_pos hs,aH]
theorem OU {α:Type} (e size bytes d:Nat) (x:V) (c:α→List D) (ys:List α) (hs:sized size (cM c ys) = true):LE e size bytes d x (.d (.sl (cM c ys))) bl kw = JF e size bytes d x c ys bl kw:=YY e size bytes d x _ c ys (fun _=>rfl) hs
def PN (e size bytes d:Nat) (x:V) (ver:Nat) (b:Option aX) (bl:List (Nat × Option aX)) (kw:V→List (Nat × Option aX)→Option β):Option β:=CB ver b fun new=>LE e size bytes d x (.d (.sl new)) bl kw
theorem aAY (e size bytes d id ver:Nat) (x:V):LE e size bytes d x (.own id ver) bl kw = eD bl id fun b=>PN e size bytes d x ver b bl kw:=by
 show LE e size bytes d x (.own id ver) bl kw = CB ver (lk bl none id) fun new=>LE e size bytes d x (.d (.sl new)) bl kw
 unfold LE
 rw [MI]
 rfl
theorem TU {α:Type} (e size bytes d v e' s' : Nat) (x:V) (c:α→List D) (ys:List α) (hs:sized size (cM c ys) = true):PN e size bytes d x v (some (.rows v e' s' (cM c ys))) bl kw = JF e size bytes d x c ys bl kw:=by
 unfold PN
 rw [HP,OU _ _ _ _ _ _ _ hs]
theorem U5 {α:Type} (e size bytes d v:Nat) (x:V) (c:α→List D) (ys:List α) (hs:sized size (cM c ys) = true):PN e size bytes d x v (some (.froz v (cM c ys))) bl kw = JF e size bytes d x c ys bl kw:=by
 unfold PN
 rw [HS,OU _ _ _ _ _ _ _ hs]
theorem XU {α:Type} (e size bytes d:Nat) (c:α→List D) (ys:List α):JF e size bytes d .nil c ys bl kw = eD bl d fun b=>vJ b (if ys.length * bytes ≤ 140737488355328 then kw (.own d 0) [(d,some (.rows 0 e size (cM c ys)))] else none):=rfl
def aCK {α:Type} (e size bytes id ver:Nat) (c:α→List D) (ys:List α) (b:Option aX) (kw:V→List (Nat × Option aX)→Option β):Option β:=match b with
    | some (.rows v e' size' rows)=>if ver = v ∧ e' = e ∧ size' = size ∧ (rows.length + ys.length) * bytes ≤ 140737488355328 then kw (.own id (ver + 1)) [(id,some (.rows (ver + 1) e size (rows ++ cM c ys)))] else none
    | _=>none
theorem XX {α:Type} (e size bytes d id ver:Nat) (c:α→List D) (ys:List α):JF e size bytes d (.own id ver) c ys bl kw = eD bl id fun b=>aCK e size bytes id ver c ys b kw:=rfl
theorem SL {α:Type} (e size bytes id v:Nat) (c:α→List D) (xs ys:List α):aCK e size bytes id v c ys (some (.rows v e size (cM c xs))) kw = if (xs.length + ys.length) * bytes ≤ 140737488355328 then kw (.own id (v + 1)) [(id,some (.rows (v + 1) e size (cM c (xs ++ ys))))] else none:=by
 simp only [aCK,true_and,aH,aAF]
def F2 (e:Nat) (rows:List (List D)) (k:List (List D)→Option β):Option β:=k rows
def IP (v:V) (bl:List (Nat × Option aX)) (k:List D→List (Nat × Option aX)→Option β):Option β:=match bI (j7 (lk bl none)) v.cells with
 | some row=>k row (rS (lk bl none) v)
 | none=>none
end
section
end
end
end Vm
end Go.Proofs.Ytfhebiceipgdmaa
