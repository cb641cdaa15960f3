/- The small machine's code, read from the front: what is left to do stands in a continuation. Equations by which the small machine's code is read (they are named in the proofs that a program prints). The small machine, read from the front by rewriting at the head only: every value is looked up before it is used. -/
import Derived.Test.YtjjcaapdaldedaaVmD
set_option linter.unusedVariables false
set_option linter.unusedSimpArgs false
namespace Go.Proofs.Ytjjcaapdaldedaa
namespace Vm
open Go.RowKit
section
variable {β:Type}
noncomputable def bD (T:CO) (c:aD) (s:St) (k:Ex->St->Option β):Option β:=(ev T c s).bind fun p=>k p.1 p.2
noncomputable def AA (T:CO) (l:List aT) (s:St) (k:St->Option β):Option β:=(oI (call T) l s).bind k
noncomputable def aL4 (T:CO) (l:List aT) (ps:List (Nat × Nat)) (s:St) (k:St->Option β):Option β:=(gR (call T) l (some ps) s).bind k
def LF (r:NY) (k:V->List (Nat × Option aI)->Option β):Option β:=match r with
 | some (v,wr)=>k v wr
 | none=>none
def aBg (v:V) (x y:Option β):Option β:=match v with
 | .d (.bool b)=>if b = true then x else y
 | _=>none
def aMW (k1:St->Option β) (k:Ex->St->Option β):Ex->St->Option β
 | .normal,s=>k1 s
 | e,s=>k e s
def UP (id:Nat) (k:Ex->St->Option β):Ex->St->Option β
 | .exit id',s=>if id' = id then k .normal s else k (.exit id') s
 | e,s=>k e s
def aBk (m:BV) (k:Ex->St->Option β):Ex->St->Option β
 | .normal,s=>k .normal (m.app s)
 | e,s=>k e s
theorem u9 {v v' : V} {x y:Option β} (h:v = v'):aBg v x y = aBg v' x y:=by rw [h]
theorem aGB (v:V) (wr:List (Nat × Option aI)) (k:V->List (Nat × Option aI)->Option β):LF (some (v,wr)) k = k v wr:=rfl
theorem aB6 (b:Bool) (x y:Option β):aBg (.d (.bool b)) x y = if b = true then x else y:=rfl
variable {T:CO} {k:Ex->St->Option β}
theorem aJx (s:St):bD T .skip s k = k .normal s:=by unfold bD; rw [aKv]; rfl
theorem aH6 (id:Nat) (s:St):bD T (.exit id) s k = k (.exit id) s:=by unfold bD; rw [aLo]; rfl
theorem aK6 (s:St):bD T .ret s k = k .ret s:=by unfold bD; rw [aPl]; rfl
theorem aB1 (l:List aT) (s:St):bD T (.region l none) s k = AA T l s (k .normal):=by
 unfold bD AA
 rw [YO]
 simp only [gR]
 cases oI (call T) l s <;> rfl
theorem aI1 (l:List aT) (ps:List (Nat × Nat)) (s:St):bD T (.region l (some ps)) s k = aL4 T l ps s (k .normal):=by
 unfold bD aL4
 rw [YO]
 cases gR (call T) l (some ps) s <;> rfl
theorem aND (a b:aD) (s:St):bD T (.seq a b) s k = bD T a s (aMW (fun s'=>bD T b s' k) k):=by
 unfold bD
 rw [aOk]
 cases ev T a s with
 | none=>rfl
 | some r =>
  obtain ⟨e,s'⟩:=r
  cases e <;> rfl
theorem aJU (c:bS) (a b:aD) (s:St):bD T (.cond c a b) s k = aBg (bI s.get c) (bD T a s k) (bD T b s k):=by
 unfold bD
 rw [aK1]
 generalize bI s.get c = v
 cases v with
 | d x=>cases x with
  | bool b=>cases b <;> rfl
  | _=>rfl
 | _=>rfl
theorem aFD (id:Nat) (a:aD) (s:St):bD T (.block id a) s k = bD T a s (UP id k):=by
 unfold bD
 rw [aHl]
 cases ev T a s with
 | none=>rfl
 | some r =>
  obtain ⟨e,s'⟩:=r
  cases e with
  | normal=>rfl
  | exit i =>
   simp only [Option.bind_some,UP]
   by_cases h:i = id
   ·simp [h]
   ·simp [h]
  | ret=>rfl
theorem aKu (m:BV) (a:aD) (s:St):bD T (.pre m a) s k = bD T a (m.app s) k:=rfl
theorem aKg (m:BV) (a:aD) (s:St):bD T (.post a m) s k = bD T a s (aBk m k):=by
 unfold bD
 rw [aNk]
 cases ev T a s with
 | none=>rfl
 | some r =>
  obtain ⟨e,s'⟩:=r
  cases e <;> rfl
theorem aU {S X:Type} {step:S->Option (S ⊕ X)} {c:aD} (enc:S->St) (out:X->Ex × St) (hout:∀ x s,out x ≠ (.normal,s))
  (h:∀ s,bD T c (enc s) (fun e s'=>some (e,s')) = bH enc out (step s)) (s:S) :
  bD T (.loop c) (enc s) k = (b8 step s).bind fun x=>k (out x).1 (out x).2:=by
 unfold bD
 rw [aHN enc out hout (fun s=>by
  have:=h s
  unfold bD at this
  rw [← this]
  cases ev T c (enc s) <;> rfl) s]
 cases b8 step s <;> rfl
theorem aOT (k1:St->Option β) (k:Ex->St->Option β) (s:St):aMW k1 k .normal s = k1 s:=rfl
theorem aO5 (k1:St->Option β) (k:Ex->St->Option β) (i:Nat) (s:St):aMW k1 k (.exit i) s = k (.exit i) s:=rfl
theorem aO6 (k1:St->Option β) (k:Ex->St->Option β) (s:St):aMW k1 k .ret s = k .ret s:=rfl
theorem aI2 (id:Nat) (k:Ex->St->Option β) (s:St):UP id k .normal s = k .normal s:=rfl
theorem aJz (id:Nat) (k:Ex->St->Option β) (i:Nat) (s:St):UP id k (.exit i) s = if i = id then k .normal s else k (.exit i) s:=rfl
theorem aIm (id:Nat) (k:Ex->St->Option β) (s:St):UP id k .ret s = k .ret s:=rfl
theorem aMq (m:BV) (k:Ex->St->Option β) (s:St):aBk m k .normal s = k .normal (m.app s):=rfl
theorem aKG (m:BV) (k:Ex->St->Option β) (i:Nat) (s:St):aBk m k (.exit i) s = k (.exit i) s:=rfl
theorem aK7 (m:BV) (k:Ex->St->Option β) (s:St):aBk m k .ret s = k .ret s:=rfl
theorem aJr (s:St) (k:St->Option β):AA T [] s k = k s:=rfl
theorem YF (d:Option Nat) (op:iF) (st:Nat) (l:List aT) (s:St) (k:St->Option β) :
  AA T (⟨d,op,none,st⟩ :: l) s k = LF (b9 (call T) st (bI s.get) s.blk op) fun v wr=>AA T l (s.put d v wr) k:=by
 unfold AA LF
 simp only [oI,B8,aT.wants]
 cases b9 (call T) st (bI s.get) s.blk op with
 | none=>rfl
 | some r=>rfl
noncomputable def qF (T:CO):List aT->St->List Fp->(St->List Fp->Option β)->Option β
 | [],s,fp,k=>k s fp
 | o :: l,s,fp,k=>match lI (call T) o s with
  | some (s',p)=>qF T l s' (p :: fp) k
  | none=>none
theorem aHU (l:List aT) (s:St) (fp:List Fp) (k:St->List Fp->Option β):qF T l s fp k = (jX (call T) l s).bind fun r=>k r.1 (r.2.reverse ++ fp):=by
 induction l generalizing s fp with
 | nil=>rfl
 | cons o l ih =>
  simp only [qF,jX]
  cases lI (call T) o s with
  | none=>rfl
  | some q =>
   obtain ⟨s',p⟩:=q
   simp only [ih]
   cases jX (call T) l s' with
   | none=>rfl
   | some r=>obtain ⟨s'',ps⟩:=r; simp
def aMP (l:List aT) (ps:List (Nat × Nat)) (k:St->Option β) (s:St) (fp:List Fp):Option β:=if QB l fp.reverse ps = true then k s else none
theorem aL5 (l:List aT) (ps:List (Nat × Nat)) (s:St) (k:St->Option β):aL4 T l ps s k = qF T l s [] (aMP l ps k):=by
 rw [aHU]
 unfold aL4
 simp only [gR]
 cases jX (call T) l s with
 | none=>rfl
 | some r =>
  obtain ⟨s',fp⟩:=r
  simp only [Option.bind_some,aMP,List.append_nil,List.reverse_reverse]
  cases h:QB l fp ps <;> simp
theorem V7 (d:Option Nat) (op:iF) (st:Nat) (l:List aT) (s:St) (fp:List Fp) (k:St->List Fp->Option β) :
  qF T (⟨d,op,none,st⟩ :: l) s fp k = LF (b9 (call T) st (bI s.get) s.blk op) fun v wr=>qF T l (s.put d v wr) (BQ ⟨d,op,none,st⟩ s.get s.blk wr :: fp) k:=by
 unfold LF
 simp only [qF,lI,aT.wants]
 cases b9 (call T) st (bI s.get) s.blk op with
 | none=>rfl
 | some r=>rfl
theorem YV (fr:List (Nat × V)) (bl:List (Nat × Option aI)) (t:Nat):St.get ⟨fr,bl⟩ t = lk fr .any t:=rfl
theorem aIr (fr:List (Nat × V)) (bl:List (Nat × Option aI)) (i:Nat):St.blk ⟨fr,bl⟩ i = lk bl none i:=rfl
theorem aQp (live keep:List Nat) (p:Nat × Nat × Nat × Nat) (l:List (Nat × Nat × Nat × Nat)) (c:List (Nat × Nat × Nat × Nat × Nat)) (ft:List Nat) (fc:List (Nat × Nat)) (s:St):BV.app ⟨live,keep,p :: l,c,ft,fc⟩ s = BV.app ⟨live,keep,l,c,ft,fc⟩ (mkT p s):=rfl
theorem aQA (live keep:List Nat) (p:Nat × Nat × Nat × Nat × Nat) (c:List (Nat × Nat × Nat × Nat × Nat)) (ft:List Nat) (fc:List (Nat × Nat)) (s:St):BV.app ⟨live,keep,[],p :: c,ft,fc⟩ s = BV.app ⟨live,keep,[],c,ft,fc⟩ (mkC p s):=rfl
theorem aOR (live keep:List Nat) (p:Nat × Nat) (fc:List (Nat × Nat)) (s:St):BV.app ⟨live,keep,[],[],[],p :: fc⟩ s = BV.app ⟨live,keep,[],[],[],fc⟩ (frC p s):=rfl
end
end Vm
end Go.Proofs.Ytjjcaapdaldedaa
namespace Go.Proofs.Ytjjcaapdaldedaa
namespace Vm
open Go.RowKit
def at? {α:Type} (xs:List α) (n:Int):Option α:=if 0 <= n then xs[n.toNat]? else none
def cI (n:Int):List D:=[.int .i64 n]
def cB (b:Bool):List D:=[.bool b]
def cS (s:ByteArray):List D:=[.str s]
def cK (k:IntKind) (n:Int):List D:=[.int k n]
def cD (row:List D):List D:=row
def cM {α:Type} (c:α->List D) (xs:List α):List (List D):=xs.map c
def cL {α:Type} (c:α->List D) (xs:List α):List D:=[.sl (cM c xs)]
def n7 {α:Type} (xs:List α) (l h:Int):List α:=(xs.take h.toNat).drop l.toNat
def B6 (n:Nat) (l h:Int):Prop:=0 <= l ∧ l <= h ∧ h.toNat <= n
instance (n:Nat) (l h:Int):Decidable (B6 n l h):=inferInstanceAs (Decidable (_ ∧ _ ∧ _))
def sAt (s:ByteArray) (n:Int):Option Int:=if 0 <= n then s[n.toNat]?.map fun b=>(b.toNat:Int) else none
section
variable {β:Type} {T:CO} {site:Nat} {ev:bS->V} {bl:Nat->Option aI} (k:V->List (Nat × Option aI)->Option β)
def Z5 (size:Nat) (x i:V) (bl:Nat->Option aI):NY:=match i with
  | .d (.int _ n)=>match x with
   | .own id ver=>match bl id with
    | some (.rows v e sz rows)=>if ver = v ∧ sz = size ∧ 0 <= n ∧ n.toNat < rows.length then some (.orow id ver n.toNat 0,[]) else none
    | some (.froz v rows)=>if ver = v ∧ 0 <= n then match rows[n.toNat]? with
     | some row=>if row.length = size then some (.d (.ptr row 0),[]) else none
     | none=>none
     else none
    | _=>none
   | .d (.sl rows)=>if 0 <= n then match rows[n.toNat]? with
    | some row=>if row.length = size then some (.d (.ptr row 0),[]) else none
    | none=>none
    else none
   | _=>none
  | _=>none
theorem WZ (C:Nat->List D->Option D) (size:Nat) (x i:bS):b9 C site ev bl (.indexAddr size x i) = Z5 size (ev x) (ev i) bl:=rfl
theorem aMJ {α:Type} (size:Nat) (c:α->List D) (xs:List α) (kd:IntKind) (n:Int) (bl:Nat->Option aI):LF (Z5 size (.d (.sl (cM c xs))) (.d (.int kd n)) bl) k = (at? xs n).bind fun x=>if (c x).length = size then k (.d (.ptr (c x) 0)) [] else none:=by
 simp only [Z5,at?,cM]
 by_cases h:0 <= n
 ·rw [if_pos h,if_pos h,List.getElem?_map]
  cases xs[n.toNat]? with
  | none=>rfl
  | some x =>
   simp only [Option.map_some,Option.bind_some]
   by_cases h2:(c x).length = size
   ·rw [if_pos h2,if_pos h2]; rfl
   ·rw [if_neg h2,if_neg h2]; rfl
 ·rw [if_neg h,if_neg h]; rfl
def aOV (size id ver:Nat) (n:Int) (b:Option aI):NY:=match b with
 | some (.rows v e sz rows)=>if ver = v ∧ sz = size ∧ 0 <= n ∧ n.toNat < rows.length then some (.orow id ver n.toNat 0,[]) else none
 | some (.froz v rows)=>if ver = v ∧ 0 <= n then match rows[n.toNat]? with
  | some row=>if row.length = size then some (.d (.ptr row 0),[]) else none
  | none=>none
  else none
 | _=>none
theorem aGo (size id ver v e sz:Nat) (n:Int) (rows:List (List D)) (k:V->List (Nat × Option aI)->Option β):LF (aOV size id ver n (some (.rows v e sz rows))) k = if ver = v then (if sz = size then (if 0 <= n ∧ n.toNat < rows.length then k (.orow id ver n.toNat 0) [] else none) else none) else none:=by
 simp only [aOV]
 by_cases h1:ver = v
 ·by_cases h2:sz = size
  ·by_cases h3:0 <= n ∧ n.toNat < rows.length
   ·rw [if_pos ⟨h1,h2,h3⟩,if_pos h1,if_pos h2,if_pos h3]; rfl
   ·rw [if_neg (fun q=>h3 q.2.2),if_pos h1,if_pos h2,if_neg h3]; rfl
  ·rw [if_neg (fun q=>h2 q.2.1),if_pos h1,if_neg h2]; rfl
 ·rw [if_neg (fun q=>h1 q.1),if_neg h1]; rfl
def aAi (size:Nat) (isAgg:Bool) (off:Nat) (row:List D):NY :=
 if isAgg then (if off + size <= row.length then some (.agg (((row.drop off).take size).map .d),[]) else none) else row[off]?.map fun v=>(.d v,[])
def aEd (size:Nat) (isAgg:Bool) (off:Nat) (b:Option aI):NY:=match b with
 | some (.box cs) =>
  if isAgg then (if off + size <= cs.length then some (.agg ((cs.drop off).take size),[]) else none)
  else cs[off]?.map fun v=>(v,[])
 | some (.fbox row)=>aAi size isAgg off row
 | _=>none
def aJb (size:Nat) (isAgg:Bool) (ver i off:Nat) (b:Option aI):NY:=match b with
 | some (.rows v e sz rows)=>if ver = v then match rows[i]? with
  | some row=>aAi size isAgg off row
  | none=>none
  else none
 | _=>none
def S0 (size:Nat) (isAgg:Bool) (x:V) (bl:Nat->Option aI):NY:=match x with
 | .ptr id off=>aEd size isAgg off (bl id)
 | .d (.ptr row off)=>aAi size isAgg off row
 | .orow id ver i off=>aJb size isAgg ver i off (bl id)
 | _=>none
theorem P7 (C:Nat->List D->Option D) (size:Nat) (isAgg:Bool) (x:bS):b9 C site ev bl (.load size isAgg x) = S0 size isAgg (ev x) bl:=rfl
theorem aFp (size:Nat) (isAgg:Bool) (id off:Nat) (bl:Nat->Option aI):S0 size isAgg (.ptr id off) bl = aEd size isAgg off (bl id):=rfl
theorem aKM (size:Nat) (isAgg:Bool) (id ver i off:Nat) (bl:Nat->Option aI):S0 size isAgg (.orow id ver i off) bl = aJb size isAgg ver i off (bl id):=rfl
theorem aNi (size off:Nat) (cs:List V):aEd size true off (some (.box cs)) = if off + size <= cs.length then some (.agg ((cs.drop off).take size),[]) else none:=rfl
theorem aNz (size off:Nat) (cs:List V):aEd size false off (some (.box cs)) = cs[off]?.map fun v=>(v,[]):=rfl
def U3 (size ver i off id:Nat) (fz:List (Nat × Option aI)) (ds:Option (List D)) (b:Option aI):NY:=match b with
 | some (.rows w e sz rows)=>if ver = w then match rows[i]?,ds with
  | some row,some ds=>if ds.length = size ∧ off + size <= row.length ∧ NX id fz = true then some (.any,(id,some (.rows w e sz (rows.set i (j6 row off ds)))) :: fz) else none
  | _,_=>none
  else none
 | _=>none
def aDt (size off id:Nat) (v:V) (b:Option aI):NY:=match b with
 | some (.box cs)=>if v.cells.length = size ∧ off + size <= cs.length ∧ v.known = true then some (.any,[(id,some (.box (j6 cs off v.cells)))]) else none
 | _=>none
def aCD (size:Nat) (x v:V) (bl:Nat->Option aI):NY:=match x with
 | .ptr id off=>aDt size off id v (bl id)
 | .orow id ver i off=>U3 size ver i off id (zZ bl v) (aP (lZ bl) v.cells) (bl id)
 | _=>none
theorem aFb (C:Nat->List D->Option D) (size:Nat) (x v:bS):b9 C site ev bl (.store size x v) = aCD size (ev x) (ev v) bl:=rfl
theorem aJM (size id off:Nat) (v:V) (bl:Nat->Option aI):aCD size (.ptr id off) v bl = aDt size off id v (bl id):=rfl
theorem aHp (size id ver i off:Nat) (v:V) (bl:Nat->Option aI):aCD size (.orow id ver i off) v bl = U3 size ver i off id (zZ bl v) (aP (lZ bl) v.cells) (bl id):=rfl
theorem aCk (size off id:Nat) (v:V) (cs:List V):aDt size off id v (some (.box cs)) = if v.cells.length = size ∧ off + size <= cs.length ∧ v.known = true then some (.any,[(id,some (.box (j6 cs off v.cells)))]) else none:=rfl
theorem aE0 (C:Nat->List D->Option D) (size:Nat) (x:bS) (lo hi:Option bS):b9 C site ev bl (.slice size x lo hi) = EC bl size (ev x) (lo.map ev) (hi.map ev):=rfl
def aNM (ver:Nat) (b:Option aI):Option (List (List D)):=match b with
 | some (.rows v _ _ rows)=>if ver = v then some rows else none
 | some (.froz v rows)=>if ver = v then some rows else none
 | _=>none
def SH (v:Option V) (d:Int):Option Int:=match v with
 | none=>some d
 | some (.d (.int _ h))=>some h
 | _=>none
theorem aE9 {α:Type} (size:Nat) (c:α->List D) (xs:List α) (lo hi:Option V) (l h:Int) (hl:SH lo 0 = some l) (hh:SH hi (xs.length:Int) = some h) (hs:sized size (cM c xs) = true) (bl:Nat->Option aI):LF (EC bl size (.d (.sl (cM c xs))) lo hi) k = if B6 xs.length l h then k (.d (.sl (cM c (n7 xs l h)))) [] else none:=by
 have e0:∀ lo' hi',EC bl size (.d (.sl (cM c xs))) lo' hi' = (match SH hi' ((cM c xs).length:Int),SH lo' 0 with
   | some h,some l=>if 0 <= l ∧ l <= h ∧ h.toNat <= (cM c xs).length ∧ sized size (cM c xs) = true then some (.d (.sl (((cM c xs).take h.toNat).drop l.toNat)),[]) else none
   | _,_=>none):=fun lo' hi'=>rfl
 rw [e0,show ((cM c xs).length:Int) = (xs.length:Int) by simp [cM],hl,hh]
 simp only [show (cM c xs).length = xs.length by simp [cM]]
 by_cases q:B6 xs.length l h
 ·rw [if_pos q,if_pos ⟨q.1,q.2.1,q.2.2,hs⟩]
  simp only [aGB,cM,n7,List.map_drop,List.map_take]
 ·rw [if_neg q,if_neg (fun w=>q ⟨w.1,w.2.1,w.2.2.1⟩)]; rfl
def KQ (x i:V):NY:=match x,i with
  | .d (.str s),.d (.int _ n)=>if 0 <= n then match s[n.toNat]? with
   | some b=>some (.d (.int .u8 b.toNat),[])
   | none=>none
   else none
  | _,_=>none
theorem aFU (C:Nat->List D->Option D) (x i:bS):b9 C site ev bl (.index x i) = KQ (ev x) (ev i):=rfl
theorem aJD (s:ByteArray) (kd:IntKind) (n:Int):LF (KQ (.d (.str s)) (.d (.int kd n))) k = (sAt s n).bind fun b=>k (.d (.int .u8 b)) []:=by
 simp only [KQ,sAt]
 split
 ·cases s[n.toNat]? <;> rfl
 ·rfl
end
section
variable {S X:Type} {enc:S->St} {out:X->Ex × St}
theorem aF4 (c:Prop) [Decidable c] (a b:Option (S ⊕ X)):bH enc out (if c then a else b) = if c then bH enc out a else bH enc out b:=by split <;> rfl
theorem aDP {α:Type} (o:Option α) (f:α->Option (S ⊕ X)):bH enc out (o.bind f) = o.bind fun x=>bH enc out (f x):=by cases o <;> rfl
theorem aCH:bH enc out none = none:=rfl
theorem aFm (s:S):bH enc out (some (.inl s)) = some (.normal,enc s):=rfl
theorem aFO (x:X):bH enc out (some (.inr x)) = some (out x):=rfl
end
theorem kG {α:Type} (size:Nat) (c:α->List D) (hc:∀ x,(c x).length = size) (xs:List α):sized size (cM c xs) = true:=by
 simp [sized,cM,hc]
theorem aHA (xs:List Int):sized 1 (cM cI xs) = true:=kG _ _ (fun x=>by rfl) xs
theorem aHC (k:IntKind) (xs:List Int):sized 1 (cM (cK k) xs) = true:=kG _ _ (fun x=>by rfl) xs
theorem aHB (xs:List Bool):sized 1 (cM cB xs) = true:=kG _ _ (fun x=>by rfl) xs
theorem aIF (xs:List ByteArray):sized 1 (cM cS xs) = true:=kG _ _ (fun x=>by rfl) xs
theorem aJK {α:Type} (c:α->List D) (xs:List (List α)):sized 1 (cM (cL c) xs) = true:=kG _ _ (fun x=>by rfl) xs
theorem HF {α:Type} (c:α->List D) (xs:List α):(cM c xs).length = xs.length:=by simp [cM]
theorem aGO {α:Type} (c:α->List D) (xs ys:List α):cM c xs ++ cM c ys = cM c (xs ++ ys):=by simp [cM]
theorem aPd {α:Type} (c:α->List D) (xs:List α) (i:Nat) (x:α):cM c (xs.set i x) = (cM c xs).set i (c x):=by simp [cM,List.map_set]
theorem ZZ {α:Type} (c:α->List D) (n:Nat) (x:α):cM c (List.replicate n x) = List.replicate n (c x):=by simp [cM]
theorem aIG {α γ:Type} (c:Prop) [Decidable c] (a b:Option α) (f:α->Option γ):(if c then a else b).bind f = if c then a.bind f else b.bind f:=by split <;> rfl
theorem aLg {α γ:Type} (c:Prop) [Decidable c] (a b:Option α) (f:α->γ):(if c then a else b).map f = if c then a.map f else b.map f:=by split <;> rfl
theorem bind_map {α γ δ:Type} (o:Option α) (f:α->Option γ) (g:γ->δ):(o.bind f).map g = o.bind fun x=>(f x).map g:=by cases o <;> rfl
theorem aEQ {α γ:Type} (f:α->Option γ):(none:Option α).bind f = none:=rfl
theorem aF8 {α γ δ ε:Type} (f:α->Option δ) (g:γ->Option δ) (x:α ⊕ γ) (h:δ->Option ε):(Sum.elim f g x).bind h = Sum.elim (fun y=>(f y).bind h) (fun y=>(g y).bind h) x:=by cases x <;> rfl
theorem aJ9 {α γ δ ε:Type} (f:α->Option δ) (g:γ->Option δ) (x:α ⊕ γ) (h:δ->ε):(Sum.elim f g x).map h = Sum.elim (fun y=>(f y).map h) (fun y=>(g y).map h) x:=by cases x <;> rfl
def gIf {α:Type} (b:Bool) (x y:α):α:=if b = true then x else y
theorem aHW {α:Type} (b:Bool) (x y:α):gIf b x y = if b = true then x else y:=rfl
theorem aDv {S X α γ:Type} {enc:S->St} {out:X->Ex × St} (f:α->Option (S ⊕ X)) (g:γ->Option (S ⊕ X)) (x:α ⊕ γ):bH enc out (Sum.elim f g x) = Sum.elim (fun y=>bH enc out (f y)) (fun y=>bH enc out (g y)) x:=by cases x <;> rfl
def aRT (sf:bM):Ex->St->Option D
 | .normal,s=>KR sf s
 | .ret,s=>KR sf s
 | .exit _,_=>none
theorem aHX {T:CO} {f:Nat} {sf:bM} (hf:T f = some (.code sf)) (ds:List D) (hl:ds.length = sf.np) (hlt:nR 0 ds = none):Vm.call T f ds = bD T sf.body ⟨tJ 0 ds,[]⟩ (aRT sf):=by
 rw [aK8 hf ds hl hlt]
 unfold bD
 cases Vm.ev T sf.body ⟨tJ 0 ds,[]⟩ with
 | none=>rfl
 | some q =>
  obtain ⟨e,s⟩:=q
  cases e <;> rfl
theorem aH {α β:Type} (o:Option α) {f g:α->Option β} (h:∀ x,f x = g x):o.bind f = o.bind g:=by rw [funext h]
end Vm
end Go.Proofs.Ytjjcaapdaldedaa
namespace Go.Proofs.Ytjjcaapdaldedaa
namespace Vm
open Go.RowKit
section
variable {β:Type}
def CS (fr:List (Nat × V)) (t:Nat) (k:V->Option β):Option β:=k (lk fr .any t)
def cY (bl:List (Nat × Option aI)) (i:Nat) (k:Option aI->Option β):Option β:=k (lk bl none i)
def cJ (fr:List (Nat × V)) (o:bS) (k:V->Option β):Option β:=k (bI (lk fr .any) o)
theorem aIp (t:Nat) (v:V) (fr:List (Nat × V)) (k:V->Option β):CS ((t,v) :: fr) t k = k v:=by simp [CS,lk]
theorem aEG (a t:Nat) (v:V) (fr:List (Nat × V)) (k:V->Option β) (h:(t == a) = false):CS ((a,v) :: fr) t k = CS fr t k:=by
 have:¬ t = a:=by simpa using h
 simp [CS,lk,this]
theorem aJ2 (t:Nat) (v:Option aI) (fr:List (Nat × Option aI)) (k:Option aI->Option β):cY ((t,v) :: fr) t k = k v:=by simp [cY,lk]
theorem aFh (a t:Nat) (v:Option aI) (fr:List (Nat × Option aI)) (k:Option aI->Option β) (h:(t == a) = false):cY ((a,v) :: fr) t k = cY fr t k:=by
 have:¬ t = a:=by simpa using h
 simp [cY,lk,this]
theorem aG4 (t:Nat) (k:Option aI->Option β):cY [] t k = k none:=rfl
theorem aKS (bl:List (Nat × Option aI)) (t:Nat) (k:Option aI->Option β):cY ([] ++ bl) t k = cY bl t k:=rfl
theorem aMU (p:Nat × Option aI) (w bl:List (Nat × Option aI)) (t:Nat) (k:Option aI->Option β):cY ((p :: w) ++ bl) t k = cY (p :: (w ++ bl)) t k:=rfl
theorem aOS (fr:List (Nat × V)) (t:Nat) (k:V->Option β):cJ fr (.t t) k = CS fr t k:=rfl
theorem aPg (fr:List (Nat × V)) (v:V) (k:V->Option β):cJ fr (.c v) k = k v:=rfl
def aK (ds:List D):List V:=ds.map .d
def fL (ds:List D):V:=.agg (aK ds)
noncomputable def AC (T:CO) (d:Nat) (op:iF) (fr:List (Nat × V)) (bl:List (Nat × Option aI)) (k:V->Option β) (kw:V->List (Nat × Option aI)->Option β):Option β :=
 match b9 (call T) d (bI (lk fr .any)) (lk bl none) op with
 | none=>none
 | some (v,[])=>k v
 | some (v,p :: wr)=>kw v (p :: wr)
theorem aE5 {T:CO} (d st:Nat) (op:iF) (l:List aT) (fr:List (Nat × V)) (bl:List (Nat × Option aI)) (k:St->Option β) :
  AA T (⟨some d,op,none,st⟩ :: l) ⟨fr,bl⟩ k = AC T st op fr bl (fun v=>AA T l ⟨(d,v) :: fr,bl⟩ k) (fun v wr=>AA T l ⟨(d,v) :: fr,wr ++ bl⟩ k):=by
 rw [YF]
 unfold AC LF
 show (match b9 (call T) st (bI (lk fr .any)) (lk bl none) op with | some (v,wr)=>_ | none=>none) = _
 cases b9 (call T) st (bI (lk fr .any)) (lk bl none) op with
 | none=>rfl
 | some r=>obtain ⟨v,wr⟩:=r; cases wr <;> rfl
theorem aDy {T:CO} (st:Nat) (op:iF) (l:List aT) (fr:List (Nat × V)) (bl:List (Nat × Option aI)) (k:St->Option β) :
  AA T (⟨none,op,none,st⟩ :: l) ⟨fr,bl⟩ k = AC T st op fr bl (fun _=>AA T l ⟨fr,bl⟩ k) (fun _ wr=>AA T l ⟨fr,wr ++ bl⟩ k):=by
 rw [YF]
 unfold AC LF
 show (match b9 (call T) st (bI (lk fr .any)) (lk bl none) op with | some (v,wr)=>_ | none=>none) = _
 cases b9 (call T) st (bI (lk fr .any)) (lk bl none) op with
 | none=>rfl
 | some r=>obtain ⟨v,wr⟩:=r; cases wr <;> rfl
def QX (t:Nat) (b:Bool) (op:iF):iF:=match op with
 | .pick (.t t') x y=>if t' = t then .move (if b then x else y) else op
 | op=>op
def QO (t:Nat) (b:Bool) (o:aT):aT:=match o.guard with
 | some (t',w)=>if t' = t then (if w = b then ⟨o.dst,QX t b o.op,none,o.site⟩ else ⟨o.dst,.move (.c (.tup [])),none,o.site⟩) else ⟨o.dst,QX t b o.op,some (t',w),o.site⟩
 | none=>⟨o.dst,QX t b o.op,none,o.site⟩
def D7 (t:Nat) (b:Bool):List aT->List aT
 | []=>[]
 | o :: l=>QO t b o :: (if o.dst = some t then l else D7 t b l)
theorem DT {C:Nat->List D->Option D} {site:Nat} {fr:Nat->V} {bl:Nat->Option aI} {t:Nat} {b:Bool} (h:fr t = .d (.bool b)) (op:iF):b9 C site (bI fr) bl (QX t b op) = b9 C site (bI fr) bl op:=by
 cases op with
 | pick c x y =>
  cases c with
  | t t' =>
   simp only [QX]
   split
   ·rename_i e
    subst e
    simp only [b9,bI,h]
    cases b <;> rfl
   ·rfl
  | c v=>rfl
 | _=>rfl
theorem aFu {C:Nat->List D->Option D} {s:St} {t:Nat} {b:Bool} (h:s.get t = .d (.bool b)) (o:aT):B8 C (QO t b o) s = B8 C o s:=by
 obtain ⟨d,op,g,st⟩:=o
 cases g with
 | some g =>
  obtain ⟨t',w⟩:=g
  simp only [QO]
  split
  ·rename_i e
   subst e
   split
   ·rename_i e
    subst e
    simp only [B8,aT.wants,h,DT h]
    cases w <;> rfl
   ·rename_i e
    simp only [B8,aT.wants,h,b9,bI]
    cases w <;> cases b <;> simp_all [B7]
  ·simp only [B8,aT.wants,DT h]
 | none=>simp only [QO,B8,aT.wants,DT h]
theorem IL {s:St} {d:Option Nat} {v:V} {wr:List (Nat × Option aI)} {t:Nat} (h:¬ d = some t):(s.put d v wr).get t = s.get t:=by
 cases d with
 | none=>rfl
 | some a =>
  show lk ((a,v) :: s.fr) .any t = lk s.fr .any t
  have:¬ t = a:=fun e=>h (by rw [e])
  simp [lk,this]
theorem aGj {C:Nat->List D->Option D} {o:aT} {s s' : St} {t:Nat} (h:¬ o.dst = some t) (e:B8 C o s = some s'):s'.get t = s.get t:=by
 unfold B8 at e
 split at e
 ·split at e
  ·cases e; exact IL h
  ·cases e
 ·cases e; exact IL h
 ·cases e
theorem SE {C:Nat->List D->Option D} {t:Nat} {b:Bool}:∀ (l:List aT) {s:St} (h:s.get t = .d (.bool b)),oI C (D7 t b l) s = oI C l s
 | [],s,h=>rfl
 | o :: l,s,h=>by
  simp only [D7,oI,aFu h]
  cases e:B8 C o s with
  | none=>rfl
  | some s' =>
   simp only
   split
   ·rfl
   ·rename_i hd
    exact SE l (by rw [aGj hd e]; exact h)
noncomputable def Q8 (T:CO) (v:V) (t:Nat) (l:List aT) (s:St) (k:St->Option β):Option β:=match v with
 | .d (.bool b)=>if b = true then AA T (D7 t true l) s k else AA T (D7 t false l) s k
 | .tup []=>match l with
  | o :: r=>AA T r (s.put o.dst (.tup []) []) k
  | []=>none
 | _=>none
theorem aCl {T:CO} (d:Option Nat) (op:iF) (t:Nat) (w:Bool) (st:Nat) (l:List aT) (fr:List (Nat × V)) (bl:List (Nat × Option aI)) (k:St->Option β) :
  AA T (⟨d,op,some (t,w),st⟩ :: l) ⟨fr,bl⟩ k = CS fr t fun v=>Q8 T v t (⟨d,op,some (t,w),st⟩ :: l) ⟨fr,bl⟩ k:=by
 show _ = Q8 T (lk fr .any t) t _ _ k
 generalize hv:lk fr .any t = v
 have bad:∀ (q:B7 v w = .bad),AA T (⟨d,op,some (t,w),st⟩ :: l) ⟨fr,bl⟩ k = none:=by
  intro q
  unfold AA
  simp only [oI,B8,aT.wants]
  rw [show (St.get ⟨fr,bl⟩ t) = v from hv,q]; rfl
 cases v with
 | d x =>
  cases x with
  | bool b =>
   simp only [Q8]
   cases b with
   | true=>rw [if_pos rfl]; unfold AA; rw [SE (t:=t) (b:=true) (s:=⟨fr,bl⟩) _ hv]
   | false=>rw [if_neg (by decide)]; unfold AA; rw [SE (t:=t) (b:=false) (s:=⟨fr,bl⟩) _ hv]
  | _=>exact bad rfl
 | tup vs =>
  cases vs with
  | nil =>
   simp only [Q8]
   unfold AA
   simp only [oI,B8,aT.wants]
   rw [show (St.get ⟨fr,bl⟩ t) = _ from hv]
   rfl
  | cons x l=>exact bad rfl
 | _=>exact bad rfl
theorem aJB {T:CO} (b:Bool) (t:Nat) (l:List aT) (s:St) (k:St->Option β):Q8 T (.d (.bool b)) t l s k = if b = true then AA T (D7 t true l) s k else AA T (D7 t false l) s k:=rfl
theorem aHc {T:CO} (t d st:Nat) (op:iF) (g:Option (Nat × Bool)) (l:List aT) (fr:List (Nat × V)) (bl:List (Nat × Option aI)) (k:St->Option β):Q8 T (.tup []) t (⟨some d,op,g,st⟩ :: l) ⟨fr,bl⟩ k = AA T l ⟨(d,.tup []) :: fr,bl⟩ k:=rfl
theorem yL {T:CO} {l l' : List aT} {s:St} {k:St->Option β} (h:l = l'):AA T l s k = AA T l' s k:=by rw [h]
section
variable {T:CO} {d:Nat} {fr:List (Nat × V)} {bl:List (Nat × Option aI)} {k:V->Option β} {kw:V->List (Nat × Option aI)->Option β}
def P6 (r:NY) (k:V->Option β) (kw:V->List (Nat × Option aI)->Option β):Option β:=match r with
 | none=>none
 | some (v,[])=>k v
 | some (v,p :: wr)=>kw v (p :: wr)
theorem aCi (o:Option D):P6 (NY.v o) k kw = o.bind fun x=>k (.d x):=by cases o <;> rfl
theorem aH2 (x:bS):AC T d (.move x) fr bl k kw = cJ fr x k:=rfl
def lW (b:Option aI) (x:Option β):Option β:=match b with
 | none=>x
 | some _=>none
theorem aLG (x:Option β):lW none x = x:=rfl
theorem aF5 (z:List V):AC T d (.alloc z) fr bl k kw = cY bl d fun b=>lW b (kw (.ptr d 0) [(d,some (.box z))]):=by
 unfold AC cY lW
 simp only [b9]
 cases lk bl none d <;> rfl
def IX (v:V) (k:List V->Option β):Option β:=if v.known = true then k v.cells else none
theorem aID (x:D) (k:List V->Option β):IX (.d x) k = k [.d x]:=rfl
theorem aCu (cs:List V) (k:List V->Option β):IX (.agg cs) k = k cs:=rfl
theorem aBu (ds:List D) (k:List V->Option β):IX (fL ds) k = k (aK ds):=rfl
theorem aDO (i o:Nat) (k:List V->Option β):IX (.own i o) k = k [.own i o]:=rfl
theorem aK0 (x:bS):AC T d (.box x) fr bl k kw = cY bl d fun b=>lW b (cJ fr x fun v=>IX v fun cs=>kw (.ptr d 0) [(d,some (.box cs))]):=by
 unfold AC cY lW cJ IX
 simp only [b9]
 cases lk bl none d with
 | none =>
  simp only
  by_cases h:(bI (lk fr .any) x).known = true
  ·rw [if_pos h,if_pos h]
  ·rw [if_neg h,if_neg h]
 | some b=>rfl
def PJ (fr:List (Nat × V)):List bS->(List V->Option β)->Option β
 | [],k=>k []
 | x :: l,k=>cJ fr x fun v=>PJ fr l fun vs=>k (v :: vs)
theorem aA9 (l:List bS) (k:List V->Option β):PJ fr l k = k (l.map (bI (lk fr .any))):=by
 induction l generalizing k with
 | nil=>rfl
 | cons x l ih=>simp only [PJ,cJ,ih,List.map_cons]
theorem aF2 (k:List V->Option β):PJ fr [] k = k []:=rfl
theorem aDz (x:bS) (l:List bS) (k:List V->Option β):PJ fr (x :: l) k = cJ fr x fun v=>PJ fr l fun vs=>k (v :: vs):=rfl
def OJ (fr:List (Nat × V)):List (Nat × Nat × bS)->(List (Nat × Nat × V)->Option β)->Option β
 | [],k=>k []
 | (o,s,x) :: l,k=>cJ fr x fun v=>OJ fr l fun vs=>k ((o,s,v) :: vs)
theorem rA (op:iF):AC T d op fr bl k kw = P6 (b9 (call T) d (bI (lk fr .any)) (lk bl none) op) k kw:=by
 unfold AC P6
 cases b9 (call T) d (bI (lk fr .any)) (lk bl none) op with
 | none=>rfl
 | some r=>obtain ⟨v,wr⟩:=r; cases wr <;> rfl
theorem L2 (r:NY):P6 r k kw = LF r fun v wr=>match wr with | []=>k v | p :: w=>kw v (p :: w):=by
 cases r with
 | none=>rfl
 | some r=>obtain ⟨v,wr⟩:=r; cases wr <;> rfl
def HQ:List V->Nat->(V->Option β)->Option β
 | [],_,_=>none
 | c :: _,0,k=>k c
 | _ :: cs,n + 1,k=>HQ cs n k
theorem QS (cs:List V) (n:Nat) (k:V->Option β):HQ cs n k = cs[n]?.bind k:=by
 induction cs generalizing n with
 | nil=>rfl
 | cons c cs ih=>cases n with
  | zero=>rfl
  | succ n=>simp only [HQ,ih,List.getElem?_cons_succ]
theorem aMx (c:V) (cs:List V) (k:V->Option β):HQ (c :: cs) 0 k = k c:=rfl
theorem aLa (c:V) (cs:List V) (n:Nat) (k:V->Option β):HQ (c :: cs) (n + 1) k = HQ cs n k:=rfl
def dT (ds:List D) (n:Nat) (k:D->Option β):Option β:=ds[n]?.bind k
def zT (ds:List D) (off size:Nat) (k:List D->Option β):Option β:=if off + size <= ds.length then k ((ds.drop off).take size) else none
def N0 (cs:List V) (off size:Nat) (k:List V->Option β):Option β:=if off + size <= cs.length then k ((cs.drop off).take size) else none
theorem aEk (ds:List D) (n:Nat) (k:V->Option β):HQ (aK ds) n k = dT ds n fun x=>k (.d x):=by
 rw [QS]
 unfold aK dT
 rw [List.getElem?_map]
 cases ds[n]? <;> rfl
theorem aGT (cs:List V) (n:Nat) (k:List V->Option β) (h:cs.length = n):N0 cs 0 n k = k cs:=by
 subst h
 simp [N0]
theorem aKL (ds:List D) (off n:Nat) (k:List V->Option β):N0 (aK ds) off n k = zT ds off n fun l=>k (aK l):=by
 unfold N0 zT aK
 simp only [List.length_map,List.map_take,List.map_drop]
def K8 (size:Nat) (isAgg:Bool) (off:Nat) (b:Option aI) (k:V->Option β):Option β:=match b with
 | some (.box cs)=>if isAgg = true then N0 cs off size fun l=>k (.agg l) else HQ cs off k
 | some (.fbox row)=>if isAgg = true then zT row off size fun l=>k (fL l) else dT row off fun x=>k (.d x)
 | _=>none
def VJ (size:Nat) (isAgg:Bool) (ver i off:Nat) (b:Option aI) (k:V->Option β):Option β:=match b with
 | some (.rows v e sz rows)=>if ver = v then rows[i]?.bind fun row=>(if isAgg = true then zT row off size fun l=>k (fL l) else dT row off fun x=>k (.d x)) else none
 | _=>none
def FS (size:Nat) (isAgg:Bool) (x:V) (bl:List (Nat × Option aI)) (k:V->Option β):Option β:=match x with
 | .ptr id off=>cY bl id fun b=>K8 size isAgg off b k
 | .d (.ptr row off)=>if isAgg = true then zT row off size fun l=>k (fL l) else dT row off fun x=>k (.d x)
 | .orow id ver i off=>cY bl id fun b=>VJ size isAgg ver i off b k
 | _=>none
theorem aBx (size:Nat) (isAgg:Bool) (x:bS):AC T d (.load size isAgg x) fr bl k kw = cJ fr x fun v=>FS size isAgg v bl k:=by
 rw [rA,P7]
 unfold cJ
 generalize bI (lk fr .any) x = v
 have hD:∀ row off,P6 (aAi size isAgg off row) k kw = if isAgg = true then zT row off size fun l=>k (fL l) else dT row off fun x=>k (.d x):=by
  intro row off
  unfold aAi
  cases isAgg with
  | true=>simp only [if_true,zT]; split <;> rfl
  | false=>simp only [Bool.false_eq_true,if_false,dT]; cases row[off]? <;> rfl
 cases v with
 | ptr id off =>
  rw [aFp]
  simp only [FS,cY]
  generalize lk bl none id = b
  cases b with
  | none=>rfl
  | some b=>cases b with
   | box cs =>
    cases isAgg with
    | true=>simp only [aNi,K8,if_true,N0]; split <;> rfl
    | false=>simp only [aNz,K8,Bool.false_eq_true,if_false,QS]; cases cs[off]? <;> rfl
   | fbox row=>exact hD row off
   | _=>rfl
 | d x=>cases x with
  | ptr row off=>exact hD row off
  | _=>rfl
 | orow id ver i off =>
  rw [aKM]
  simp only [FS,cY]
  generalize lk bl none id = b
  cases b with
  | none=>rfl
  | some b=>cases b with
   | rows v e sz rows =>
    simp only [aJb,VJ]
    split
    ·cases rows[i]? with
     | none=>rfl
     | some row=>exact hD row off
    ·rfl
   | _=>rfl
 | _=>rfl
theorem aE1 (size:Nat) (isAgg:Bool) (id off:Nat):FS size isAgg (.ptr id off) bl k = cY bl id fun b=>K8 size isAgg off b k:=rfl
theorem aG5 (size:Nat) (row:List D) (off:Nat):FS size true (.d (.ptr row off)) bl k = zT row off size fun l=>k (fL l):=rfl
theorem aJI (size:Nat) (row:List D) (off:Nat):FS size false (.d (.ptr row off)) bl k = dT row off fun x=>k (.d x):=rfl
theorem aMv (size:Nat) (isAgg:Bool) (id ver i off:Nat):FS size isAgg (.orow id ver i off) bl k = cY bl id fun b=>VJ size isAgg ver i off b k:=rfl
theorem aFR (size off:Nat) (row:List D):K8 size false off (some (.fbox row)) k = dT row off fun x=>k (.d x):=rfl
theorem aKc (size off:Nat) (cs:List V):K8 size false off (some (.box cs)) k = HQ cs off k:=rfl
theorem aKm (size off:Nat) (c:V) (cs:List V):K8 size true off (some (.box (c :: cs))) k = N0 (c :: cs) off size fun l=>k (.agg l):=rfl
theorem aIY (size off:Nat) (ds:List D):K8 size true off (some (.box (aK ds))) k = zT ds off size fun l=>k (fL l):=by
 show N0 (aK ds) off size (fun l=>k (.agg l)) = _
 rw [aKL]; rfl
theorem aAX {α:Type} (size:Nat) (isAgg:Bool) (v i off e sz:Nat) (c:α->List D) (xs:List α):VJ size isAgg v i off (some (.rows v e sz (cM c xs))) k = xs[i]?.bind fun x=>FS size isAgg (.d (.ptr (c x) off)) [] k:=by
 simp only [VJ,if_true,cM,List.getElem?_map]
 cases xs[i]? <;> rfl
def EA:List V->Nat->V->(List V->Option β)->Option β
 | [],_,_,_=>none
 | _ :: cs,0,v,k=>k (v :: cs)
 | c :: cs,n + 1,v,k=>EA cs n v fun l=>k (c :: l)
theorem aAn (cs:List V) (n:Nat) (v:V) (k:List V->Option β):EA cs n v k = if n + 1 <= cs.length then k (j6 cs n [v]) else none:=by
 induction cs generalizing n k with
 | nil=>rfl
 | cons c cs ih=>cases n with
  | zero=>rw [if_pos (by simp)]; cases cs <;> rfl
  | succ n =>
   simp only [EA,ih,j6,List.length_cons]
   by_cases h:n + 1 <= cs.length
   ·rw [if_pos h,if_pos (by omega)]
   ·rw [if_neg h,if_neg (by omega)]
theorem aNm (c:V) (cs:List V) (v:V) (k:List V->Option β):EA (c :: cs) 0 v k = k (v :: cs):=rfl
theorem aMm (c:V) (cs:List V) (n:Nat) (v:V) (k:List V->Option β):EA (c :: cs) (n + 1) v k = EA cs n v fun l=>k (c :: l):=rfl
def BX (cs:List V) (off:Nat) (ws:List V) (k:List V->Option β):Option β:=if off + ws.length <= cs.length then k (j6 cs off ws) else none
theorem X7 {α:Type} (l:List α) (n:Nat):j6 l n [] = l:=by cases l <;> rfl
theorem aBe (c:V) (cs:List V) (off:Nat) (ws:List V) (k:List V->Option β) (hw:ws ≠ []):BX (c :: cs) (off + 1) ws k = BX cs off ws fun l=>k (c :: l):=by
 unfold BX
 cases ws with
 | nil=>exact absurd rfl hw
 | cons w ws =>
  simp only [List.length_cons,j6]
  by_cases h:off + (ws.length + 1) <= cs.length
  ·rw [if_pos h,if_pos (by omega)]
  ·rw [if_neg h,if_neg (by omega)]
theorem aCq (c:V) (cs:List V) (w:V) (ws:List V) (k:List V->Option β):BX (c :: cs) 0 (w :: ws) k = BX cs 0 ws fun l=>k (w :: l):=by
 unfold BX
 simp only [List.length_cons,j6]
 by_cases h:0 + ws.length <= cs.length
 ·rw [if_pos h,if_pos (by omega)]
 ·rw [if_neg h,if_neg (by omega)]
theorem aDr (cs:List V) (k:List V->Option β):BX cs 0 [] k = k cs:=by simp [BX,X7]
def gK (size off id:Nat) (v:V) (b:Option aI) (kw:V->List (Nat × Option aI)->Option β):Option β:=match b with
 | some (.box cs)=>if v.cells.length = size ∧ off + size <= cs.length ∧ v.known = true then kw .any [(id,some (.box (j6 cs off v.cells)))] else none
 | _=>none
def PX (size ver i off id:Nat) (v:V) (bl:List (Nat × Option aI)) (b:Option aI) (kw:V->List (Nat × Option aI)->Option β):Option β:=LF (U3 size ver i off id (zZ (lk bl none) v) (aP (lZ (lk bl none)) v.cells) b) kw
def UC (size:Nat) (p v:V) (bl:List (Nat × Option aI)) (kw:V->List (Nat × Option aI)->Option β):Option β:=match p with
 | .ptr id off=>cY bl id fun b=>gK size off id v b kw
 | .orow id ver i off=>cY bl id fun b=>PX size ver i off id v bl b kw
 | _=>none
theorem aGY (size:Nat) (x v:bS):AC T d (.store size x v) fr bl k kw = cJ fr x fun p=>cJ fr v fun w=>UC size p w bl kw:=by
 rw [rA,aFb]
 unfold cJ
 generalize bI (lk fr .any) x = p
 generalize bI (lk fr .any) v = w
 cases p with
 | ptr id off =>
  rw [aJM]
  simp only [UC,cY]
  generalize lk bl none id = b
  cases b with
  | none=>rfl
  | some b=>cases b with
   | box cs =>
    simp only [aCk,gK]
    by_cases h:w.cells.length = size ∧ off + size <= cs.length ∧ w.known = true
    ·rw [if_pos h,if_pos h]; rfl
    ·rw [if_neg h,if_neg h]; rfl
   | _=>rfl
 | orow id ver i off =>
  rw [aHp]
  simp only [UC,cY,PX]
  rw [L2]
  generalize lk bl none id = b
  cases b with
  | none=>rfl
  | some b=>cases b with
   | rows v e sz rows =>
    simp only [U3]
    by_cases h:ver = v
    ·rw [if_pos h]
     cases rows[i]? with
     | none=>rfl
     | some row =>
      cases aP (lZ (lk bl none)) w.cells with
      | none=>rfl
      | some ds =>
       simp only
       split <;> rfl
    ·rw [if_neg h]; rfl
   | _=>rfl
 | _=>rfl
theorem aJS (size id off:Nat) (v:V):UC size (.ptr id off) v bl kw = cY bl id fun b=>gK size off id v b kw:=rfl
theorem aJR (size id ver i off:Nat) (v:V):UC size (.orow id ver i off) v bl kw = cY bl id fun b=>PX size ver i off id v bl b kw:=rfl
theorem LU (off id:Nat) (w c:V) (cs:List V) (hw:w.one = true) (hk:w.known = true):gK 1 off id w (some (.box (c :: cs))) kw = EA (c :: cs) off w fun l=>kw .any [(id,some (.box l))]:=by
 have hc:w.cells = [w]:=by cases w <;> first | rfl | cases hw
 rw [aAn]
 simp only [gK,hc,hk]
 by_cases h:off + 1 <= (c :: cs).length
 ·rw [if_pos h,if_pos ⟨rfl,h,trivial⟩]
 ·rw [if_neg h,if_neg (fun q=>h q.2.1)]
theorem aE8 (off id:Nat) (x:D) (c:V) (cs:List V):gK 1 off id (.d x) (some (.box (c :: cs))) kw = EA (c :: cs) off (.d x) fun l=>kw .any [(id,some (.box l))]:=LU off id _ c cs rfl rfl
theorem aBS (off id i v:Nat) (c:V) (cs:List V):gK 1 off id (.own i v) (some (.box (c :: cs))) kw = EA (c :: cs) off (.own i v) fun l=>kw .any [(id,some (.box l))]:=LU off id _ c cs rfl rfl
theorem aAQ (off id i v:Nat) (c:V) (cs:List V):gK 1 off id (.ptr i v) (some (.box (c :: cs))) kw = EA (c :: cs) off (.ptr i v) fun l=>kw .any [(id,some (.box l))]:=LU off id _ c cs rfl rfl
def QA (cs:List V) (n:Nat) (x:Option β):Option β:=if cs.length = n then x else none
theorem aLK (x:Option β):QA [] 0 x = x:=rfl
theorem aKO (c:V) (cs:List V) (n:Nat) (x:Option β):QA (c :: cs) (n + 1) x = QA cs n x:=by
 unfold QA
 simp only [List.length_cons]
 by_cases h:cs.length = n
 ·rw [if_pos h,if_pos (by omega)]
 ·rw [if_neg h,if_neg (by omega)]
theorem aAx (size off id:Nat) (ws:List V) (c:V) (cs:List V):gK size off id (.agg ws) (some (.box (c :: cs))) kw = QA ws size (BX (c :: cs) off ws fun l=>kw .any [(id,some (.box l))]):=by
 unfold QA BX
 show (if ws.length = size ∧ off + size <= (c :: cs).length ∧ V.known (.agg ws) = true then kw .any [(id,some (.box (j6 (c :: cs) off ws)))] else none) = _
 by_cases h:ws.length = size
 ·subst h
  rw [if_pos rfl]
  by_cases h:off + ws.length <= (c :: cs).length
  ·rw [if_pos h,if_pos ⟨rfl,h,rfl⟩]
  ·rw [if_neg h,if_neg (fun q=>h q.2.1)]
 ·rw [if_neg h,if_neg (fun q=>h q.1)]
theorem XH {α:Type}:∀ (l m:List α),l.length = m.length->j6 l 0 m = m
 | [],[],_=>rfl
 | _ :: l,x :: m,h=>by
  simp only [j6]
  rw [XH l m (by simpa using h)]
 | [],_ :: _,h=>by simp at h
 | _ :: _,[],h=>by simp at h
theorem iC (n id:Nat) (ds:List D) (hd:ds.length = n) (cs:List V) (hc:cs.length = n):gK n 0 id (fL ds) (some (.box cs)) kw = kw .any [(id,some (.box (aK ds)))]:=by
 have e:(aK ds).length = n:=by rw [← hd]; simp [aK]
 show (if (aK ds).length = n ∧ 0 + n <= cs.length ∧ V.known (fL ds) = true then kw .any [(id,some (.box (j6 cs 0 (aK ds))))] else none) = _
 rw [if_pos ⟨e,by omega,rfl⟩,XH _ _ (by rw [hc,e])]
def aNY (v:V) (bl:List (Nat × Option aI)) (k:V->Option β):Option β:=match v with
 | .ptr id off=>k (.ptr id off)
 | .d (.ptr row off)=>k (.d (.ptr row off))
 | .orow id ver i off=>cY bl id fun b=>match b with
  | some (.rows v _ _ _)=>if ver = v then k (.orow id ver i off) else none
  | _=>none
 | _=>none
theorem ZO (x:bS):AC T d (.nilCheck x) fr bl k kw = cJ fr x fun v=>aNY v bl k:=by
 unfold AC cJ
 simp only [b9]
 generalize bI (lk fr .any) x = v
 cases v with
 | d x=>cases x <;> rfl
 | orow id ver i off =>
  simp only [aNY,cY]
  generalize lk bl none id = b
  cases b with
  | none=>rfl
  | some b=>cases b with
   | rows v e s rows=>simp only; by_cases h:ver = v <;> simp [h]
   | _=>rfl
 | _=>rfl
def aBC (id ver i off:Nat) (b:Option aI) (k:V->Option β):Option β:=match b with
 | some (.rows v _ _ _)=>if ver = v then k (.orow id ver i off) else none
 | _=>none
theorem aKP (id ver i off e s:Nat) (rows:List (List D)):aBC id ver i off (some (.rows ver e s rows)) k = k (.orow id ver i off):=if_pos rfl
def faK (off:Nat) (v:V) (bl:List (Nat × Option aI)) (k:V->Option β):Option β:=match v with
 | .ptr id o=>k (.ptr id (o + off))
 | .d (.ptr row o)=>k (.d (.ptr row (o + off)))
 | .orow id ver i o=>cY bl id fun b=>aBC id ver i (o + off) b k
 | _=>none
theorem W8 (off:Nat) (x:bS):AC T d (.fieldAddr off x) fr bl k kw = cJ fr x fun v=>faK off v bl k:=by
 unfold AC cJ
 simp only [b9]
 generalize bI (lk fr .any) x = v
 cases v with
 | d x=>cases x <;> rfl
 | orow id ver i o =>
  simp only [faK,cY]
  generalize lk bl none id = b
  cases b with
  | none=>rfl
  | some b=>cases b with
   | rows v e s rows=>simp only [aBC]; by_cases h:ver = v <;> simp [h]
   | _=>rfl
 | _=>rfl
theorem aQF (off id o:Nat):faK off (.ptr id o) bl k = k (.ptr id (o + off)):=rfl
theorem aPO (off:Nat) (row:List D) (o:Nat):faK off (.d (.ptr row o)) bl k = k (.d (.ptr row (o + off))):=rfl
theorem aQs (off id ver i o:Nat):faK off (.orow id ver i o) bl k = cY bl id fun b=>aBC id ver i (o + off) b k:=rfl
def C3 (c:Nat) (op:BinOp) (a b:V) (k:V->Option β):Option β:=(HX c op a b).bind fun x=>k (.d x)
theorem aK9 (c:Nat) (op:BinOp) (x y:bS):AC T d (.bin c op x y) fr bl k kw = cJ fr x fun a=>cJ fr y fun b=>C3 c op a b k:=by
 rw [rA]
 exact aCi _
section
variable (kd:IntKind) (x y:Int)
theorem aHx:C3 0 .add (.d (.int kd x)) (.d (.int kd y)) k = k (.d (.int kd (IntKind.wrap kd (x + y)))):=by simp [C3,HX,xC]
theorem aIQ:C3 0 .sub (.d (.int kd x)) (.d (.int kd y)) k = k (.d (.int kd (IntKind.wrap kd (x - y)))):=by simp [C3,HX,xC]
theorem aI9:C3 0 .mul (.d (.int kd x)) (.d (.int kd y)) k = k (.d (.int kd (IntKind.wrap kd (x * y)))):=by simp [C3,HX,xC]
theorem aHR:C3 0 .quo (.d (.int kd x)) (.d (.int kd y)) k = if y = 0 then none else k (.d (.int kd (IntKind.wrap kd (x.tdiv y)))):=by
 simp only [C3,HX,xC,if_true]; split <;> rfl
theorem aIj:C3 0 .rem (.d (.int kd x)) (.d (.int kd y)) k = if y = 0 then none else k (.d (.int kd (x.tmod y))):=by
 simp only [C3,HX,xC,if_true]; split <;> rfl
theorem aH8:C3 0 .eql (.d (.int kd x)) (.d (.int kd y)) k = k (.d (.bool (x == y))):=by simp [C3,HX,xC]
theorem aIP:C3 0 .neq (.d (.int kd x)) (.d (.int kd y)) k = k (.d (.bool (x != y))):=by simp [C3,HX,xC]
theorem aJp:C3 0 .lss (.d (.int kd x)) (.d (.int kd y)) k = k (.d (.bool (decide (x < y)))):=by simp [C3,HX,xC]
theorem aJd:C3 0 .leq (.d (.int kd x)) (.d (.int kd y)) k = k (.d (.bool (decide (x <= y)))):=by simp [C3,HX,xC]
theorem aHD:C3 0 .gtr (.d (.int kd x)) (.d (.int kd y)) k = k (.d (.bool (decide (x > y)))):=by simp [C3,HX,xC]
theorem aIx:C3 0 .geq (.d (.int kd x)) (.d (.int kd y)) k = k (.d (.bool (decide (x ≥ y)))):=by simp [C3,HX,xC]
end
section
variable (x y:ByteArray)
theorem aEP:C3 0 .eql (.d (.str x)) (.d (.str y)) k = k (.d (.bool (x.toList == y.toList))):=rfl
end
theorem aFM (x y:Bool):C3 1 .eql (.d (.bool x)) (.d (.bool y)) k = k (.d (.bool (x == y))):=rfl
def aJy (o:Option D) (k:V->Option β):Option β:=o.bind fun x=>k (.d x)
theorem yM {o o' : Option D} {k:V->Option β} (h:o = o'):aJy o k = aJy o' k:=by rw [h]
section
variable {k:V->Option β}
end
section
variable {k:Bool->Option β}
end
def aKf (kd:IntKind) (x:Int):List V->(V->Option β)->Option β:=fun l k=>aJy (aDs kd x l) k
def aNT (l:List V) (k:V->Option β):Option β:=aJy (aLI l) k
theorem aNq (l:List bS):AC T d (.max l) fr bl k kw = PJ fr l fun vs=>aNT vs k:=by
 rw [rA,aA9]
 exact aCi _
section
variable {k:V->Option β}
theorem aLD (kd:IntKind) (x:Int) (l:List V):aNT (.d (.int kd x) :: l) k = aKf kd x l k:=rfl
theorem aIO (kd:IntKind) (x:Int):aKf kd x [] k = k (.d (.int kd x)):=rfl
theorem aFs (kd:IntKind) (x y:Int) (l:List V):aKf kd x (.d (.int kd y) :: l) k = aKf kd (if y > x then y else x) l k:=by simp [aKf,aDs]
end
def unK (op:UnOp) (v:V) (k:V->Option β):Option β:=aJy (unV op v) k
theorem aOG (op:UnOp) (x:bS):AC T d (.un op x) fr bl k kw = cJ fr x fun a=>unK op a k:=by
 rw [rA]
 exact aCi _
theorem aLi (b:Bool):unK .not (.d (.bool b)) k = k (.d (.bool !b)):=rfl
def aNO (kd:IntKind) (v:V) (k:V->Option β):Option β:=match v with
 | .d (.int _ n)=>k (.d (.int kd (IntKind.wrap kd n)))
 | _=>none
theorem aH0 (kd:IntKind) (x:bS):AC T d (.conv kd x) fr bl k kw = cJ fr x fun a=>aNO kd a k:=by
 unfold AC cJ
 simp only [b9]
 generalize bI (lk fr .any) x = v
 cases v with
 | d x=>cases x <;> rfl
 | _=>rfl
theorem aMl (kd kd' : IntKind) (n:Int):aNO kd (.d (.int kd' n)) k = k (.d (.int kd (IntKind.wrap kd n))):=rfl
def jL (s:ByteArray):List Int:=s.data.toList.map fun b=>(b.toNat:Int)
def aCI (v:V) (k:V->Option β):Option β:=match v with
 | .d (.str s)=>k (.d (.sl (cM (cK .u8) (jL s))))
 | _=>none
theorem aFV (x:bS):AC T d (.bytes x) fr bl k kw = cJ fr x fun a=>aCI a k:=by
 unfold AC cJ
 simp only [b9]
 generalize bI (lk fr .any) x = v
 cases v with
 | d x=>cases x with
  | str s =>
   have:(s.data.toList.map fun b=>[D.int .u8 (b.toNat:Int)]) = cM (cK .u8) (jL s):=by
    simp only [cM,jL,List.map_map]
    rfl
   simp only [aCI,this]
  | _=>rfl
 | _=>rfl
theorem aJJ (s:ByteArray):aCI (.d (.str s)) k = k (.d (.sl (cM (cK .u8) (jL s)))):=rfl
def PK (v:V) (bl:List (Nat × Option aI)) (k:List (List D)->Option β):Option β:=(mS (lk bl none) v).bind k
def RI (ver:Nat) (b:Option aI) (k:List (List D)->Option β):Option β:=(aNM ver b).bind k
theorem aJX (rows:List (List D)) (k:List (List D)->Option β):PK (.d (.sl rows)) bl k = k rows:=rfl
theorem YL (id ver:Nat) (k:List (List D)->Option β):PK (.own id ver) bl k = cY bl id fun b=>RI ver b k:=by
 unfold PK cY RI
 simp only [mS]
 generalize lk bl none id = b
 cases b with
 | none=>rfl
 | some b=>cases b <;> rfl
theorem TA (v e s:Nat) (rows:List (List D)) (k:List (List D)->Option β):RI v (some (.rows v e s rows)) k = k rows:=by simp [RI,aNM]
theorem aK4 (x:bS):AC T d (.len x) fr bl k kw = cJ fr x fun a=>PK a bl fun rows=>k (.d (.int .i64 rows.length)):=by
 unfold AC cJ PK
 simp only [b9]
 cases mS (lk bl none) (bI (lk fr .any) x) <;> rfl
def aNW (v:V) (k:V->Option β):Option β:=match v with
 | .d (.str s)=>k (.d (.int .i64 s.size))
 | _=>none
theorem aJo (x:bS):AC T d (.lenS x) fr bl k kw = cJ fr x fun a=>aNW a k:=by
 unfold AC cJ
 simp only [b9]
 generalize bI (lk fr .any) x = v
 cases v with
 | d x=>cases x <;> rfl
 | _=>rfl
theorem aLU (s:ByteArray):aNW (.d (.str s)) k = k (.d (.int .i64 s.size)):=rfl
def Y9 (off size:Nat) (isAgg:Bool) (v:V) (k:V->Option β):Option β:=match v with
 | .agg cs=>if isAgg = true then N0 cs off size fun l=>k (.agg l) else HQ cs off k
 | _=>none
theorem aF6 (off size:Nat) (isAgg:Bool) (x:bS):AC T d (.field off size isAgg x) fr bl k kw = cJ fr x fun v=>Y9 off size isAgg v k:=by
 unfold AC cJ
 simp only [b9]
 generalize bI (lk fr .any) x = v
 cases v with
 | agg cs =>
  cases isAgg with
  | true =>
   simp only [Y9,N0,if_true]
   by_cases h:off + size <= cs.length
   ·rw [if_pos h,if_pos h]
   ·rw [if_neg h,if_neg h]
  | false=>simp only [Y9,QS,Bool.false_eq_true,if_false]; cases cs[off]? <;> rfl
 | _=>rfl
theorem aFw (off size:Nat) (ds:List D):Y9 off size false (fL ds) k = dT ds off fun x=>k (.d x):=by
 show HQ (aK ds) off k = _
 rw [aEk]
def uQ (ds:List D) (n:Nat) (x:Option β):Option β:=if ds.length = n then x else none
def aKb (size:Nat) (x i:V) (bl:List (Nat × Option aI)) (k:V->Option β):Option β:=P6 (Z5 size x i (lk bl none)) k fun _ _=>none
theorem aGc {size:Nat} {x i:V} {b:Nat->Option aI} {kw' : V->List (Nat × Option aI)->Option β}:P6 (Z5 size x i b) k kw = P6 (Z5 size x i b) k kw':=by
 have:∀ r,Z5 size x i b = some r->r.2 = []:=by
  intro r
  unfold Z5
  intro e
  repeat' split at e
  all_goals first | cases e; rfl | cases e
 cases h:Z5 size x i b with
 | none=>rfl
 | some r=>obtain ⟨v,wr⟩:=r; have:=this _ h; dsimp only at this; subst this; rfl
theorem XF (size:Nat) (x i:bS):AC T d (.indexAddr size x i) fr bl k kw = cJ fr x fun a=>cJ fr i fun b=>aKb size a b bl k:=by
 rw [rA,WZ]
 unfold cJ aKb
 exact aGc
theorem aME {α:Type} (size:Nat) (c:α->List D) (xs:List α) (kd:IntKind) (n:Int):aKb size (.d (.sl (cM c xs))) (.d (.int kd n)) bl k = (at? xs n).bind fun x=>uQ (c x) size (k (.d (.ptr (c x) 0))):=by
 unfold aKb
 rw [L2,aMJ]
 rfl
def aIa (size id ver:Nat) (n:Int) (b:Option aI) (k:V->Option β):Option β:=P6 (aOV size id ver n b) k fun _ _=>none
theorem aIt (size id ver:Nat) (kd:IntKind) (n:Int):aKb size (.own id ver) (.d (.int kd n)) bl k = cY bl id fun b=>aIa size id ver n b k:=rfl
theorem aCy {α:Type} (size id v e:Nat) (n:Int) (c:α->List D) (xs:List α):aIa size id v n (some (.rows v e size (cM c xs))) k = if 0 <= n ∧ n.toNat < xs.length then k (.orow id v n.toNat 0) else none:=by
 unfold aIa
 rw [L2,aGo,if_pos rfl,if_pos rfl,HF]
def aDR (x i:V) (k:V->Option β):Option β:=LF (KQ x i) fun v _=>k v
theorem aFX (x i:bS):AC T d (.index x i) fr bl k kw = cJ fr x fun a=>cJ fr i fun b=>aDR a b k:=by
 rw [rA,aFU]
 unfold cJ aDR
 generalize bI (lk fr .any) x = a
 generalize bI (lk fr .any) i = b
 have:∀ r,KQ a b = some r->r.2 = []:=by
  intro r
  unfold KQ
  intro e
  repeat' split at e
  all_goals first | cases e; rfl | cases e
 show _ = LF (KQ a b) fun v _=>k v
 cases h:KQ a b with
 | none=>rfl
 | some r=>obtain ⟨v,wr⟩:=r; have:=this _ h; dsimp only at this; subst this; rfl
theorem aMk (s:ByteArray) (kd:IntKind) (n:Int):aDR (.d (.str s)) (.d (.int kd n)) k = (sAt s n).bind fun b=>k (.d (.int .u8 b)):=by
 unfold aDR
 rw [aJD]
def aMI (fr:List (Nat × V)) (o:Option bS) (k:Option V->Option β):Option β:=match o with
 | none=>k none
 | some x=>cJ fr x fun v=>k (some v)
theorem aOK (k:Option V->Option β):aMI fr none k = k none:=rfl
theorem aPh (x:bS) (k:Option V->Option β):aMI fr (some x) k = cJ fr x fun v=>k (some v):=rfl
def RM (size:Nat) (x:V) (lo hi:Option V) (bl:List (Nat × Option aI)) (k:V->Option β) (kw:V->List (Nat × Option aI)->Option β):Option β:=P6 (EC (lk bl none) size x lo hi) k kw
theorem aEN (size:Nat) (x:bS) (lo hi:Option bS):AC T d (.slice size x lo hi) fr bl k kw = cJ fr x fun a=>aMI fr lo fun l=>aMI fr hi fun h=>RM size a l h bl k kw:=by
 rw [rA,aE0]
 cases lo <;> cases hi <;> rfl
section
variable {α:Type} (size:Nat) (c:α->List D) (xs:List α) (hs:sized size (cM c xs) = true)
include hs
theorem aGA {lo hi:Option V} {l h:Int} (hl:SH lo 0 = some l) (hh:SH hi (xs.length:Int) = some h):RM size (.d (.sl (cM c xs))) lo hi bl k kw = if B6 xs.length l h then k (.d (.sl (cM c (n7 xs l h)))) else none:=by
 unfold RM
 rw [L2,aE9 _ size c xs lo hi l h hl hh hs]
theorem aES (kd:IntKind) (h:Int):RM size (.d (.sl (cM c xs))) none (some (.d (.int kd h))) bl k kw = if B6 xs.length 0 h then k (.d (.sl (cM c (n7 xs 0 h)))) else none:=aGA size c xs hs rfl rfl
end
def XC (e size bytes d:Nat) (x y:V) (bl:List (Nat × Option aI)) (kw:V->List (Nat × Option aI)->Option β):Option β:=PK y bl fun new =>
 if sized size new = true then
   match x with
   | .nil=>cY bl d fun b=>lW b (if new.length * bytes <= 140737488355328 then kw (.own d 0) [(d,some (.rows 0 e size new))] else none)
   | .own id ver=>cY bl id fun b=>match b with
    | some (.rows v e' size' rows)=>if ver = v ∧ e' = e ∧ size' = size ∧ (rows.length + new.length) * bytes <= 140737488355328 then kw (.own id (ver + 1)) [(id,some (.rows (ver + 1) e size (rows ++ new)))] else none
    | _=>none
   | _=>none
   else none
theorem aDE (e size bytes:Nat) (x y:bS):AC T d (.append e size bytes x y) fr bl k kw = cJ fr x fun a=>cJ fr y fun b=>XC e size bytes d a b bl kw:=by
 unfold AC cJ XC PK cY lW
 simp only [b9]
 generalize bI (lk fr .any) x = v
 cases mS (lk bl none) (bI (lk fr .any) y) with
 | none=>rfl
 | some new =>
  simp only [Option.bind_some]
  by_cases hs:sized size new = true
  ·rw [if_pos hs,if_pos hs]
   cases v with
   | nil =>
    simp only
    cases lk bl none d with
    | none =>
     simp only
     by_cases h:new.length * bytes <= 140737488355328
     ·rw [if_pos h,if_pos h]
     ·rw [if_neg h,if_neg h]
    | some b=>rfl
   | own id ver =>
    simp only
    generalize lk bl none id = b
    cases b with
    | none=>rfl
    | some b=>cases b with
     | rows v e' size' rows =>
      simp only
      by_cases h:ver = v ∧ e' = e ∧ size' = size ∧ (rows.length + new.length) * bytes <= 140737488355328
      ·rw [if_pos h,if_pos h]
      ·rw [if_neg h,if_neg h]
     | _=>rfl
   | _=>rfl
  ·rw [if_neg hs,if_neg hs]
def aBd {α:Type} (e size bytes d:Nat) (x:V) (c:α->List D) (ys:List α) (bl:List (Nat × Option aI)) (kw:V->List (Nat × Option aI)->Option β):Option β:=match x with
   | .nil=>cY bl d fun b=>lW b (if ys.length * bytes <= 140737488355328 then kw (.own d 0) [(d,some (.rows 0 e size (cM c ys)))] else none)
   | .own id ver=>cY bl id fun b=>match b with
    | some (.rows v e' size' rows)=>if ver = v ∧ e' = e ∧ size' = size ∧ (rows.length + ys.length) * bytes <= 140737488355328 then kw (.own id (ver + 1)) [(id,some (.rows (ver + 1) e size (rows ++ cM c ys)))] else none
    | _=>none
   | _=>none
theorem aGZ {α:Type} (e size bytes d:Nat) (x y:V) (c:α->List D) (ys:List α) (hy:∀ k' : List (List D)->Option β,PK y bl k' = k' (cM c ys)) (hs:sized size (cM c ys) = true):XC e size bytes d x y bl kw = aBd e size bytes d x c ys bl kw:=by
 unfold XC aBd
 rw [hy,if_pos hs,HF]
theorem aEE {α:Type} (e size bytes d:Nat) (x:V) (c:α->List D) (ys:List α) (hs:sized size (cM c ys) = true):XC e size bytes d x (.d (.sl (cM c ys))) bl kw = aBd e size bytes d x c ys bl kw:=aGZ e size bytes d x _ c ys (fun _=>rfl) hs
def aJa (e size bytes d:Nat) (x:V) (ver:Nat) (b:Option aI) (bl:List (Nat × Option aI)) (kw:V->List (Nat × Option aI)->Option β):Option β:=RI ver b fun new=>XC e size bytes d x (.d (.sl new)) bl kw
theorem aHQ (e size bytes d id ver:Nat) (x:V):XC e size bytes d x (.own id ver) bl kw = cY bl id fun b=>aJa e size bytes d x ver b bl kw:=by
 show XC e size bytes d x (.own id ver) bl kw = RI ver (lk bl none id) fun new=>XC e size bytes d x (.d (.sl new)) bl kw
 unfold XC
 rw [YL]
 rfl
theorem aCV {α:Type} (e size bytes d v e' s' : Nat) (x:V) (c:α->List D) (ys:List α) (hs:sized size (cM c ys) = true):aJa e size bytes d x v (some (.rows v e' s' (cM c ys))) bl kw = aBd e size bytes d x c ys bl kw:=by
 unfold aJa
 rw [TA,aEE _ _ _ _ _ _ _ hs]
def aHT {α:Type} (e size bytes id ver:Nat) (c:α->List D) (ys:List α) (b:Option aI) (kw:V->List (Nat × Option aI)->Option β):Option β:=match b with
    | some (.rows v e' size' rows)=>if ver = v ∧ e' = e ∧ size' = size ∧ (rows.length + ys.length) * bytes <= 140737488355328 then kw (.own id (ver + 1)) [(id,some (.rows (ver + 1) e size (rows ++ cM c ys)))] else none
    | _=>none
theorem aGM {α:Type} (e size bytes d id ver:Nat) (c:α->List D) (ys:List α):aBd e size bytes d (.own id ver) c ys bl kw = cY bl id fun b=>aHT e size bytes id ver c ys b kw:=rfl
theorem aCB {α:Type} (e size bytes id v:Nat) (c:α->List D) (xs ys:List α):aHT e size bytes id v c ys (some (.rows v e size (cM c xs))) kw = if (xs.length + ys.length) * bytes <= 140737488355328 then kw (.own id (v + 1)) [(id,some (.rows (v + 1) e size (cM c (xs ++ ys))))] else none:=by
 simp only [aHT,true_and,HF,aGO]
def WQ (e:Nat) (rows:List (List D)) (k:List (List D)->Option β):Option β:=k rows
def VI (v:V) (bl:List (Nat × Option aI)) (k:List D->List (Nat × Option aI)->Option β):Option β:=match aP (lZ (lk bl none)) v.cells with
 | some row=>k row (zZ (lk bl none) v)
 | none=>none
end
section
end
end
end Vm
end Go.Proofs.Ytjjcaapdaldedaa
