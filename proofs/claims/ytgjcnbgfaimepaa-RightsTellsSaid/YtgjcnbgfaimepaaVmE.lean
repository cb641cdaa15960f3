/- The small machine's code, read from the front: what is left to do stands in a continuation. Equations by which the small machine's code is read (they are named in the proofs that a program prints). The small machine, read from the front by rewriting at the head only: every value is looked up before it is used. -/
import Derived.Test.YtgjcnbgfaimepaaVmD
namespace Go.Proofs.Ytgjcnbgfaimepaa
section
namespace Vm
open Go.RowKit
section
variable {β:Type}
noncomputable def bD (T:CJ) (c:aH) (s:St) (k:Ex->St->Option β):Option β:=(ev T c s).bind fun p=>k p.1 p.2
noncomputable def AW (T:CJ) (l:List aS) (s:St) (k:St->Option β):Option β:=(lA (call T) l s).bind k
noncomputable def aNO (T:CJ) (l:List aS) (ps:List (Nat × Nat)) (s:St) (k:St->Option β):Option β:=(iX (call T) l (some ps) s).bind k
def UO (r:WY) (k:V->List (Nat × Option aL)->Option β):Option β:=match r with
 | some (v,wr)=>k v wr
 | none=>none
def aEe (v:V) (x y:Option β):Option β:=match v with
 | .d (.bool b)=>if b = true then x else y
 | _=>none
def aOr (k1:St->Option β) (k:Ex->St->Option β):Ex->St->Option β
 | .normal,s=>k1 s
 | e,s=>k e s
def YE (id:Nat) (k:Ex->St->Option β):Ex->St->Option β
 | .exit id',s=>if id' = id then k .normal s else k (.exit id') s
 | e,s=>k e s
def aEf (m:BE) (k:Ex->St->Option β):Ex->St->Option β
 | .normal,s=>k .normal (m.app s)
 | e,s=>k e s
theorem yF {v v' : V} {x y:Option β} (h:v = v'):aEe v x y = aEe v' x y:=by rw [h]
theorem aHp (v:V) (wr:List (Nat × Option aL)) (k:V->List (Nat × Option aL)->Option β):UO (some (v,wr)) k = k v wr:=rfl
theorem aEn (b:Bool) (x y:Option β):aEe (.d (.bool b)) x y = if b = true then x else y:=rfl
variable {T:CJ} {k:Ex->St->Option β}
theorem aJ3 (s:St):bD T .skip s k = k .normal s:=by unfold bD; rw [aNd]; rfl
theorem aK1 (id:Nat) (s:St):bD T (.exit id) s k = k (.exit id) s:=by unfold bD; rw [aPw]; rfl
theorem aM9 (s:St):bD T .ret s k = k .ret s:=by unfold bD; rw [aRZ]; rfl
theorem aF5 (l:List aS) (s:St):bD T (.region l none) s k = AW T l s (k .normal):=by
 unfold bD AW
 rw [aBj]
 simp only [iX]
 cases lA (call T) l s <;> rfl
theorem aKK (l:List aS) (ps:List (Nat × Nat)) (s:St):bD T (.region l (some ps)) s k = aNO T l ps s (k .normal):=by
 unfold bD aNO
 rw [aBj]
 cases iX (call T) l (some ps) s <;> rfl
theorem aOO (a b:aH) (s:St):bD T (.seq a b) s k = bD T a s (aOr (fun s'=>bD T b s' k) k):=by
 unfold bD
 rw [aRp]
 cases ev T a s with
 | none=>rfl
 | some r =>
  obtain ⟨e,s'⟩:=r
  cases e <;> rfl
theorem aL5 (c:d7) (a b:aH) (s:St):bD T (.cond c a b) s k = aEe (cZ s.get c) (bD T a s k) (bD T b s k):=by
 unfold bD
 rw [aOZ]
 generalize cZ s.get c = v
 cases v with
 | d x=>cases x with
  | bool b=>cases b <;> rfl
  | _=>rfl
 | _=>rfl
theorem aH2 (id:Nat) (a:aH) (s:St):bD T (.block id a) s k = bD T a s (YE id k):=by
 unfold bD
 rw [aMI]
 cases ev T a s with
 | none=>rfl
 | some r =>
  obtain ⟨e,s'⟩:=r
  cases e with
  | normal=>rfl
  | exit i =>
   simp only [À,YE]
   by_cases h:i = id
   ·simp [h]
   ·simp [h]
  | ret=>rfl
theorem aO5 (m:BE) (a:aH) (s:St):bD T (.pre m a) s k = bD T a (m.app s) k:=rfl
theorem aJw (m:BE) (a:aH) (s:St):bD T (.post a m) s k = bD T a s (aEf m k):=by
 unfold bD
 rw [aMN]
 cases ev T a s with
 | none=>rfl
 | some r =>
  obtain ⟨e,s'⟩:=r
  cases e <;> rfl
theorem aQ {S X:Type} {step:S->Option (S ⊕ X)} {c:aH} (enc:S->St) (out:X->Ex × St) (hout:∀ x s,out x ≠ (.normal,s))
  (h:∀ s,bD T c (enc s) (fun e s'=>some (e,s')) = bP enc out (step s)) (s:S) :
  bD T (.loop c) (enc s) k = (bV step s).bind fun x=>k (out x).1 (out x).2:=by
 unfold bD
 rw [aLw enc out hout (fun s=>by
  have:=h s
  unfold bD at this
  rw [← this]
  cases ev T c (enc s) <;> rfl) s]
 cases bV step s <;> rfl
theorem aOT (ops:List aS) (args:List d7) (dst:Option Nat) (f:Nat) (body:aH) (res:List qU) (id:Nat) (slots:List Nat) (s:St) :
  bD T (.inl ops args dst f body res id slots) s k = AW T ops s fun s1=>(aAY args id slots s1).bind fun s2=>bD T body s2 fun ex s3=>match ex with
   | .exit _=>none
   | _=>(pS dst res id slots s3).bind fun s4=>k .normal s4:=by
 unfold bD AW
 rw [aRF]
 cases lA (call T) ops s with
 | none=>rfl
 | some s1 =>
  simp only [À]
  cases aAY args id slots s1 with
  | none=>rfl
  | some s2 =>
   simp only [À]
   cases ev T body s2 with
   | none=>rfl
   | some q =>
    obtain ⟨e,s3⟩:=q
    cases e with
    | normal=>simp only [À]; cases pS dst res id slots s3 <;> rfl
    | exit i=>rfl
    | ret=>simp only [À]; cases pS dst res id slots s3 <;> rfl
theorem aQG (k1:St->Option β) (k:Ex->St->Option β) (s:St):aOr k1 k .normal s = k1 s:=rfl
theorem aQQ (k1:St->Option β) (k:Ex->St->Option β) (i:Nat) (s:St):aOr k1 k (.exit i) s = k (.exit i) s:=rfl
theorem aQ7 (k1:St->Option β) (k:Ex->St->Option β) (s:St):aOr k1 k .ret s = k .ret s:=rfl
theorem aMg (id:Nat) (k:Ex->St->Option β) (s:St):YE id k .normal s = k .normal s:=rfl
theorem aL4 (id:Nat) (k:Ex->St->Option β) (i:Nat) (s:St):YE id k (.exit i) s = if i = id then k .normal s else k (.exit i) s:=rfl
theorem aLY (id:Nat) (k:Ex->St->Option β) (s:St):YE id k .ret s = k .ret s:=rfl
theorem aNF (m:BE) (k:Ex->St->Option β) (s:St):aEf m k .normal s = k .normal (m.app s):=rfl
theorem aM5 (m:BE) (k:Ex->St->Option β) (i:Nat) (s:St):aEf m k (.exit i) s = k (.exit i) s:=rfl
theorem aOH (m:BE) (k:Ex->St->Option β) (s:St):aEf m k .ret s = k .ret s:=rfl
theorem aKY (s:St) (k:St->Option β):AW T [] s k = k s:=rfl
theorem aAH (d:Option Nat) (op:pF) (st:Nat) (l:List aS) (s:St) (k:St->Option β) :
  AW T (⟨d,op,none,st⟩ :: l) s k = UO (iB (call T) st (cZ s.get) s.blk op) fun v wr=>AW T l (s.put d v wr) k:=by
 unfold AW UO
 simp only [lA,EW,aS.wants]
 cases iB (call T) st (cZ s.get) s.blk op with
 | none=>rfl
 | some r=>rfl
noncomputable def rM (T:CJ):List aS->St->List Fp->(St->List Fp->Option β)->Option β
 | [],s,fp,k=>k s fp
 | o :: l,s,fp,k=>match mN (call T) o s with
  | some (s',p)=>rM T l s' (p :: fp) k
  | none=>none
theorem aK2 (l:List aS) (s:St) (fp:List Fp) (k:St->List Fp->Option β):rM T l s fp k = (lN (call T) l s).bind fun r=>k r.1 (r.2.reverse ++ fp):=by
 induction l generalizing s fp with
 | nil=>rfl
 | cons o l ih =>
  simp only [rM,lN]
  cases mN (call T) o s with
  | none=>rfl
  | some q =>
   obtain ⟨s',p⟩:=q
   simp only [ih]
   cases lN (call T) l s' with
   | none=>rfl
   | some r=>obtain ⟨s'',ps⟩:=r; simp
def aNm (l:List aS) (ps:List (Nat × Nat)) (k:St->Option β) (s:St) (fp:List Fp):Option β:=if TH l fp.reverse ps = true then k s else none
theorem aPO (l:List aS) (ps:List (Nat × Nat)) (s:St) (k:St->Option β):aNO T l ps s k = rM T l s [] (aNm l ps k):=by
 rw [aK2]
 unfold aNO
 simp only [iX]
 cases lN (call T) l s with
 | none=>rfl
 | some r =>
  obtain ⟨s',fp⟩:=r
  simp only [À,aNm,Û,List.reverse_reverse]
  cases h:TH l fp ps <;> simp
theorem ZK (d:Option Nat) (op:pF) (st:Nat) (l:List aS) (s:St) (fp:List Fp) (k:St->List Fp->Option β) :
  rM T (⟨d,op,none,st⟩ :: l) s fp k = UO (iB (call T) st (cZ s.get) s.blk op) fun v wr=>rM T l (s.put d v wr) (DO ⟨d,op,none,st⟩ s.get s.blk wr :: fp) k:=by
 unfold UO
 simp only [rM,mN,aS.wants]
 cases iB (call T) st (cZ s.get) s.blk op with
 | none=>rfl
 | some r=>rfl
theorem O9 (fr:List (Nat × V)) (bl:List (Nat × Option aL)) (t:Nat):St.get ⟨fr,bl⟩ t = lk fr .any t:=rfl
theorem U9 (fr:List (Nat × V)) (bl:List (Nat × Option aL)) (i:Nat):St.blk ⟨fr,bl⟩ i = lk bl none i:=rfl
theorem aTs (live keep:List Nat) (p:Nat × Nat × Nat × Nat) (l:List (Nat × Nat × Nat × Nat)) (c:List (Nat × Nat × Nat × Nat × Nat)) (ft:List Nat) (fc:List (Nat × Nat)) (s:St):BE.app ⟨live,keep,p :: l,c,ft,fc⟩ s = BE.app ⟨live,keep,l,c,ft,fc⟩ (mkT p s):=rfl
theorem aTl (live keep:List Nat) (p:Nat × Nat × Nat × Nat × Nat) (c:List (Nat × Nat × Nat × Nat × Nat)) (ft:List Nat) (fc:List (Nat × Nat)) (s:St):BE.app ⟨live,keep,[],p :: c,ft,fc⟩ s = BE.app ⟨live,keep,[],c,ft,fc⟩ (mkC p s):=rfl
theorem aRe (live keep:List Nat) (p:Nat) (ft:List Nat) (fc:List (Nat × Nat)) (s:St):BE.app ⟨live,keep,[],[],p :: ft,fc⟩ s = BE.app ⟨live,keep,[],[],ft,fc⟩ (frT p s):=rfl
end
end Vm
end
section
namespace Vm
open Go.RowKit
def at? {α:Type} (xs:List α) (n:Int):Option α:=if 0 <= n then xs[n.toNat]? else none
def cI (n:Int):List D:=[.int .i64 n]
def cB (b:Bool):List D:=[.bool b]
def cS (s:ByteArray):List D:=[.str s]
def cK (k:IntKind) (n:Int):List D:=[.int k n]
def cM {α:Type} (c:α->List D) (xs:List α):List (List D):=xs.map c
def cL {α:Type} (c:α->List D) (xs:List α):List D:=[.sl (cM c xs)]
def SD {α:Type} (xs:List α) (l h:Int):List α:=(xs.take h.toNat).drop l.toNat
def HS (n:Nat) (l h:Int):Prop:=0 <= l ∧ l <= h ∧ h.toNat <= n
instance (n:Nat) (l h:Int):Decidable (HS n l h):=inferInstanceAs (Decidable (_ ∧ _ ∧ _))
section
variable {β:Type} {T:CJ} {site:Nat} {ev:d7->V} {bl:Nat->Option aL} (k:V->List (Nat × Option aL)->Option β)
def aCf (size:Nat) (x i:V) (bl:Nat->Option aL):WY:=match i with
  | .d (.int _ n)=>match x with
   | .own id ver=>match bl id with
    | some (.rows v e sz rows)=>if ver = v ∧ sz = size ∧ 0 <= n ∧ n.toNat < rows.length then some (.orow id ver n.toNat 0,[]) else none
    | some (.froz v rows)=>if ver = v ∧ 0 <= n then match rows[n.toNat]? with
     | some row=>if row.length = size then some (.d (.ptr row 0),[]) else none
     | none=>none
     else none
    | _=>none
   | .d (.sl rows)=>if 0 <= n then match rows[n.toNat]? with
    | some row=>if row.length = size then some (.d (.ptr row 0),[]) else none
    | none=>none
    else none
   | _=>none
  | _=>none
theorem Z5 (C:Nat->List D->Option D) (size:Nat) (x i:d7):iB C site ev bl (.indexAddr size x i) = aCf size (ev x) (ev i) bl:=rfl
theorem aM0 {α:Type} (size:Nat) (c:α->List D) (xs:List α) (kd:IntKind) (n:Int) (bl:Nat->Option aL):UO (aCf size (.d (.sl (cM c xs))) (.d (.int kd n)) bl) k = (at? xs n).bind fun x=>if (c x).length = size then k (.d (.ptr (c x) 0)) [] else none:=by
 simp only [aCf,at?,cM]
 by_cases h:0 <= n
 ·rw [Á h,Á h,Ç]
  cases xs[n.toNat]? with
  | none=>rfl
  | some x =>
   simp only [ä,À]
   by_cases h2:(c x).length = size
   ·rw [Á h2,Á h2]; rfl
   ·rw [Ã h2,Ã h2]; rfl
 ·rw [Ã h,Ã h]; rfl
def aQ3 (size id ver:Nat) (n:Int) (b:Option aL):WY:=match b with
 | some (.rows v e sz rows)=>if ver = v ∧ sz = size ∧ 0 <= n ∧ n.toNat < rows.length then some (.orow id ver n.toNat 0,[]) else none
 | some (.froz v rows)=>if ver = v ∧ 0 <= n then match rows[n.toNat]? with
  | some row=>if row.length = size then some (.d (.ptr row 0),[]) else none
  | none=>none
  else none
 | _=>none
theorem aID (size id ver v e sz:Nat) (n:Int) (rows:List (List D)) (k:V->List (Nat × Option aL)->Option β):UO (aQ3 size id ver n (some (.rows v e sz rows))) k = if ver = v then (if sz = size then (if 0 <= n ∧ n.toNat < rows.length then k (.orow id ver n.toNat 0) [] else none) else none) else none:=by
 simp only [aQ3]
 by_cases h1:ver = v
 ·by_cases h2:sz = size
  ·by_cases h3:0 <= n ∧ n.toNat < rows.length
   ·rw [Á ⟨h1,h2,h3⟩,Á h1,Á h2,Á h3]; rfl
   ·rw [Ã (fun q=>h3 q.2.2),Á h1,Á h2,Ã h3]; rfl
  ·rw [Ã (fun q=>h2 q.2.1),Á h1,Ã h2]; rfl
 ·rw [Ã (fun q=>h1 q.1),Ã h1]; rfl
def aEb (size:Nat) (isAgg:Bool) (off:Nat) (row:List D):WY :=
 if isAgg then (if off + size <= row.length then some (.agg (((row.drop off).take size).map .d),[]) else none) else row[off]?.map fun v=>(.d v,[])
def aGo (size:Nat) (isAgg:Bool) (off:Nat) (b:Option aL):WY:=match b with
 | some (.box cs) =>
  if isAgg then (if off + size <= cs.length then some (.agg ((cs.drop off).take size),[]) else none)
  else cs[off]?.map fun v=>(v,[])
 | some (.fbox row)=>aEb size isAgg off row
 | _=>none
def aLV (size:Nat) (isAgg:Bool) (ver i off:Nat) (b:Option aL):WY:=match b with
 | some (.rows v e sz rows)=>if ver = v then match rows[i]? with
  | some row=>aEb size isAgg off row
  | none=>none
  else none
 | _=>none
def UA (size:Nat) (isAgg:Bool) (x:V) (bl:Nat->Option aL):WY:=match x with
 | .ptr id off=>aGo size isAgg off (bl id)
 | .d (.ptr row off)=>aEb size isAgg off row
 | .orow id ver i off=>aLV size isAgg ver i off (bl id)
 | _=>none
theorem QI (C:Nat->List D->Option D) (size:Nat) (isAgg:Bool) (x:d7):iB C site ev bl (.load size isAgg x) = UA size isAgg (ev x) bl:=rfl
theorem aII (size:Nat) (isAgg:Bool) (id off:Nat) (bl:Nat->Option aL):UA size isAgg (.ptr id off) bl = aGo size isAgg off (bl id):=rfl
theorem aM1 (size:Nat) (isAgg:Bool) (id ver i off:Nat) (bl:Nat->Option aL):UA size isAgg (.orow id ver i off) bl = aLV size isAgg ver i off (bl id):=rfl
theorem aNx (size off:Nat) (cs:List V):aGo size true off (some (.box cs)) = if off + size <= cs.length then some (.agg ((cs.drop off).take size),[]) else none:=rfl
theorem aP5 (size off:Nat) (cs:List V):aGo size false off (some (.box cs)) = cs[off]?.map fun v=>(v,[]):=rfl
def Y7 (size ver i off id:Nat) (fz:List (Nat × Option aL)) (ds:Option (List D)) (b:Option aL):WY:=match b with
 | some (.rows w e sz rows)=>if ver = w then match rows[i]?,ds with
  | some row,some ds=>if ds.length = size ∧ off + size <= row.length ∧ GT id fz = true then some (.any,(id,some (.rows w e sz (rows.set i (lE row off ds)))) :: fz) else none
  | _,_=>none
  else none
 | _=>none
def aF2 (size off id:Nat) (v:V) (b:Option aL):WY:=match b with
 | some (.box cs)=>if v.cells.length = size ∧ off + size <= cs.length ∧ v.known = true then some (.any,[(id,some (.box (lE cs off v.cells)))]) else none
 | _=>none
def aEt (size:Nat) (x v:V) (bl:Nat->Option aL):WY:=match x with
 | .ptr id off=>aF2 size off id v (bl id)
 | .orow id ver i off=>Y7 size ver i off id (CI bl v) (aM (pE bl) v.cells) (bl id)
 | _=>none
theorem aIr (C:Nat->List D->Option D) (size:Nat) (x v:d7):iB C site ev bl (.store size x v) = aEt size (ev x) (ev v) bl:=rfl
theorem aJs (size id off:Nat) (v:V) (bl:Nat->Option aL):aEt size (.ptr id off) v bl = aF2 size off id v (bl id):=rfl
theorem aJG (size id ver i off:Nat) (v:V) (bl:Nat->Option aL):aEt size (.orow id ver i off) v bl = Y7 size ver i off id (CI bl v) (aM (pE bl) v.cells) (bl id):=rfl
theorem aFF (size off id:Nat) (v:V) (cs:List V):aF2 size off id v (some (.box cs)) = if v.cells.length = size ∧ off + size <= cs.length ∧ v.known = true then some (.any,[(id,some (.box (lE cs off v.cells)))]) else none:=rfl
theorem aIl (C:Nat->List D->Option D) (size:Nat) (x:d7) (lo hi:Option d7):iB C site ev bl (.slice size x lo hi) = GW bl size (ev x) (lo.map ev) (hi.map ev):=rfl
def aQn (ver:Nat) (b:Option aL):Option (List (List D)):=match b with
 | some (.rows v _ _ rows)=>if ver = v then some rows else none
 | some (.froz v rows)=>if ver = v then some rows else none
 | _=>none
def VS (v:Option V) (d:Int):Option Int:=match v with
 | none=>some d
 | some (.d (.int _ h))=>some h
 | _=>none
theorem aHi {α:Type} (size:Nat) (c:α->List D) (xs:List α) (lo hi:Option V) (l h:Int) (hl:VS lo 0 = some l) (hh:VS hi (xs.length:Int) = some h) (hs:sized size (cM c xs) = true) (bl:Nat->Option aL):UO (GW bl size (.d (.sl (cM c xs))) lo hi) k = if HS xs.length l h then k (.d (.sl (cM c (SD xs l h)))) [] else none:=by
 have e0:∀ lo' hi',GW bl size (.d (.sl (cM c xs))) lo' hi' = (match VS hi' ((cM c xs).length:Int),VS lo' 0 with
   | some h,some l=>if 0 <= l ∧ l <= h ∧ h.toNat <= (cM c xs).length ∧ sized size (cM c xs) = true then some (.d (.sl (((cM c xs).take h.toNat).drop l.toNat)),[]) else none
   | _,_=>none):=fun lo' hi'=>rfl
 rw [e0,show ((cM c xs).length:Int) = (xs.length:Int) by simp [cM],hl,hh]
 simp only [show (cM c xs).length = xs.length by simp [cM]]
 by_cases q:HS xs.length l h
 ·rw [Á q,Á ⟨q.1,q.2.1,q.2.2,hs⟩]
  simp only [aHp,cM,SD,List.map_drop,Ţ]
 ·rw [Ã q,Ã (fun w=>q ⟨w.1,w.2.1,w.2.2.1⟩)]; rfl
end
section
variable {S X:Type} {enc:S->St} {out:X->Ex × St}
theorem aHh (c:Prop) [Decidable c] (a b:Option (S ⊕ X)):bP enc out (if c then a else b) = if c then bP enc out a else bP enc out b:=by split <;> rfl
theorem aFy {α:Type} (o:Option α) (f:α->Option (S ⊕ X)):bP enc out (o.bind f) = o.bind fun x=>bP enc out (f x):=by cases o <;> rfl
theorem aEP:bP enc out none = none:=rfl
theorem aHO (s:S):bP enc out (some (.inl s)) = some (.normal,enc s):=rfl
theorem aI4 (x:X):bP enc out (some (.inr x)) = some (out x):=rfl
end
theorem vF {α:Type} (size:Nat) (c:α->List D) (hc:∀ x,(c x).length = size) (xs:List α):sized size (cM c xs) = true:=by
 simp [sized,cM,hc]
theorem aKe (xs:List Int):sized 1 (cM cI xs) = true:=vF _ _ (fun x=>by rfl) xs
theorem aK8 (k:IntKind) (xs:List Int):sized 1 (cM (cK k) xs) = true:=vF _ _ (fun x=>by rfl) xs
theorem aJU (xs:List Bool):sized 1 (cM cB xs) = true:=vF _ _ (fun x=>by rfl) xs
theorem aLk (xs:List ByteArray):sized 1 (cM cS xs) = true:=vF _ _ (fun x=>by rfl) xs
theorem aJ8 {α:Type} (c:α->List D) (xs:List (List α)):sized 1 (cM (cL c) xs) = true:=vF _ _ (fun x=>by rfl) xs
theorem J9 {α:Type} (c:α->List D) (xs:List α):(cM c xs).length = xs.length:=by simp [cM]
theorem aIs {α:Type} (c:α->List D) (xs ys:List α):cM c xs ++ cM c ys = cM c (xs ++ ys):=by simp [cM]
theorem aRH {α:Type} (c:α->List D) (xs:List α) (i:Nat) (x:α):cM c (xs.set i x) = (cM c xs).set i (c x):=by simp [cM,List.map_set]
theorem aCc {α:Type} (c:α->List D) (n:Nat) (x:α):cM c (List.replicate n x) = List.replicate n (c x):=by simp [cM]
theorem aKN {α γ:Type} (c:Prop) [Decidable c] (a b:Option α) (f:α->Option γ):(if c then a else b).bind f = if c then a.bind f else b.bind f:=by split <;> rfl
theorem aO1 {α γ:Type} (c:Prop) [Decidable c] (a b:Option α) (f:α->γ):(if c then a else b).map f = if c then a.map f else b.map f:=by split <;> rfl
theorem bind_map {α γ δ:Type} (o:Option α) (f:α->Option γ) (g:γ->δ):(o.bind f).map g = o.bind fun x=>(f x).map g:=by cases o <;> rfl
theorem aHo {α γ:Type} (f:α->Option γ):(none:Option α).bind f = none:=rfl
theorem aH5 {α γ δ ε:Type} (f:α->Option δ) (g:γ->Option δ) (x:α ⊕ γ) (h:δ->Option ε):(Sum.elim f g x).bind h = Sum.elim (fun y=>(f y).bind h) (fun y=>(g y).bind h) x:=by cases x <;> rfl
theorem aLT {α γ δ ε:Type} (f:α->Option δ) (g:γ->Option δ) (x:α ⊕ γ) (h:δ->ε):(Sum.elim f g x).map h = Sum.elim (fun y=>(f y).map h) (fun y=>(g y).map h) x:=by cases x <;> rfl
def gIf {α:Type} (b:Bool) (x y:α):α:=if b = true then x else y
theorem aJ5 {α:Type} (b:Bool) (x y:α):gIf b x y = if b = true then x else y:=rfl
theorem aEY {S X α γ:Type} {enc:S->St} {out:X->Ex × St} (f:α->Option (S ⊕ X)) (g:γ->Option (S ⊕ X)) (x:α ⊕ γ):bP enc out (Sum.elim f g x) = Sum.elim (fun y=>bP enc out (f y)) (fun y=>bP enc out (g y)) x:=by cases x <;> rfl
def aT7 (sf:b5):Ex->St->Option D
 | .normal,s=>OV sf s
 | .ret,s=>OV sf s
 | .exit _,_=>none
theorem aDp {T:CJ} {f:Nat} {sf:b5} (hf:T f = some (.code sf)) (ds:List D) (hl:ds.length = sf.np) (hlt:mO 0 ds = none):Vm.call T f ds = bD T sf.body ⟨tM 0 ds,[]⟩ (aT7 sf):=by
 rw [aN8 hf ds hl hlt]
 unfold bD
 cases Vm.ev T sf.body ⟨tM 0 ds,[]⟩ with
 | none=>rfl
 | some q =>
  obtain ⟨e,s⟩:=q
  cases e <;> rfl
theorem aK {α β:Type} (o:Option α) {f g:α->Option β} (h:∀ x,f x = g x):o.bind f = o.bind g:=by rw [funext h]
end Vm
end
section
namespace Vm
open Go.RowKit
section
variable {β:Type}
def rK (fr:List (Nat × V)) (t:Nat) (k:V->Option β):Option β:=k (lk fr .any t)
def cG (bl:List (Nat × Option aL)) (i:Nat) (k:Option aL->Option β):Option β:=k (lk bl none i)
def fA (fr:List (Nat × V)) (o:d7) (k:V->Option β):Option β:=k (cZ (lk fr .any) o)
theorem aMa (t:Nat) (v:V) (fr:List (Nat × V)) (k:V->Option β):rK ((t,v) :: fr) t k = k v:=by simp [rK,lk]
theorem aHk (a t:Nat) (v:V) (fr:List (Nat × V)) (k:V->Option β) (h:(t == a) = false):rK ((a,v) :: fr) t k = rK fr t k:=by
 have:¬ t = a:=by simpa using h
 simp [rK,lk,this]
theorem aKI (t:Nat) (v:Option aL) (fr:List (Nat × Option aL)) (k:Option aL->Option β):cG ((t,v) :: fr) t k = k v:=by simp [cG,lk]
theorem aJl (a t:Nat) (v:Option aL) (fr:List (Nat × Option aL)) (k:Option aL->Option β) (h:(t == a) = false):cG ((a,v) :: fr) t k = cG fr t k:=by
 have:¬ t = a:=by simpa using h
 simp [cG,lk,this]
theorem aLx (t:Nat) (k:Option aL->Option β):cG [] t k = k none:=rfl
theorem aQb (bl:List (Nat × Option aL)) (t:Nat) (k:Option aL->Option β):cG ([] ++ bl) t k = cG bl t k:=rfl
theorem aM8 (p:Nat × Option aL) (w bl:List (Nat × Option aL)) (t:Nat) (k:Option aL->Option β):cG ((p :: w) ++ bl) t k = cG (p :: (w ++ bl)) t k:=rfl
theorem aRt (fr:List (Nat × V)) (t:Nat) (k:V->Option β):fA fr (.t t) k = rK fr t k:=rfl
theorem aQL (fr:List (Nat × V)) (v:V) (k:V->Option β):fA fr (.c v) k = k v:=rfl
def fL (ds:List D):List V:=ds.map .d
def zZ (ds:List D):V:=.agg (fL ds)
noncomputable def FS (T:CJ) (d:Nat) (op:pF) (fr:List (Nat × V)) (bl:List (Nat × Option aL)) (k:V->Option β) (kw:V->List (Nat × Option aL)->Option β):Option β :=
 match iB (call T) d (cZ (lk fr .any)) (lk bl none) op with
 | none=>none
 | some (v,[])=>k v
 | some (v,p :: wr)=>kw v (p :: wr)
theorem aIJ {T:CJ} (d st:Nat) (op:pF) (l:List aS) (fr:List (Nat × V)) (bl:List (Nat × Option aL)) (k:St->Option β) :
  AW T (⟨some d,op,none,st⟩ :: l) ⟨fr,bl⟩ k = FS T st op fr bl (fun v=>AW T l ⟨(d,v) :: fr,bl⟩ k) (fun v wr=>AW T l ⟨(d,v) :: fr,wr ++ bl⟩ k):=by
 rw [aAH]
 unfold FS UO
 show (match iB (call T) st (cZ (lk fr .any)) (lk bl none) op with | some (v,wr)=>_ | none=>none) = _
 cases iB (call T) st (cZ (lk fr .any)) (lk bl none) op with
 | none=>rfl
 | some r=>obtain ⟨v,wr⟩:=r; cases wr <;> rfl
theorem aFw {T:CJ} (st:Nat) (op:pF) (l:List aS) (fr:List (Nat × V)) (bl:List (Nat × Option aL)) (k:St->Option β) :
  AW T (⟨none,op,none,st⟩ :: l) ⟨fr,bl⟩ k = FS T st op fr bl (fun _=>AW T l ⟨fr,bl⟩ k) (fun _ wr=>AW T l ⟨fr,wr ++ bl⟩ k):=by
 rw [aAH]
 unfold FS UO
 show (match iB (call T) st (cZ (lk fr .any)) (lk bl none) op with | some (v,wr)=>_ | none=>none) = _
 cases iB (call T) st (cZ (lk fr .any)) (lk bl none) op with
 | none=>rfl
 | some r=>obtain ⟨v,wr⟩:=r; cases wr <;> rfl
def UF (t:Nat) (b:Bool) (op:pF):pF:=match op with
 | .pick (.t t') x y=>if t' = t then .move (if b then x else y) else op
 | op=>op
def TA (t:Nat) (b:Bool) (o:aS):aS:=match o.guard with
 | some (t',w)=>if t' = t then (if w = b then ⟨o.dst,UF t b o.op,none,o.site⟩ else ⟨o.dst,.move (.c (.tup [])),none,o.site⟩) else ⟨o.dst,UF t b o.op,some (t',w),o.site⟩
 | none=>⟨o.dst,UF t b o.op,none,o.site⟩
def G2 (t:Nat) (b:Bool):List aS->List aS
 | []=>[]
 | o :: l=>TA t b o :: (if o.dst = some t then l else G2 t b l)
theorem FY {C:Nat->List D->Option D} {site:Nat} {fr:Nat->V} {bl:Nat->Option aL} {t:Nat} {b:Bool} (h:fr t = .d (.bool b)) (op:pF):iB C site (cZ fr) bl (UF t b op) = iB C site (cZ fr) bl op:=by
 cases op with
 | pick c x y =>
  cases c with
  | t t' =>
   simp only [UF]
   split
   ·rename_i e
    subst e
    simp only [iB,cZ,h]
    cases b <;> rfl
   ·rfl
  | c v=>rfl
 | _=>rfl
theorem aIu {C:Nat->List D->Option D} {s:St} {t:Nat} {b:Bool} (h:s.get t = .d (.bool b)) (o:aS):EW C (TA t b o) s = EW C o s:=by
 obtain ⟨d,op,g,st⟩:=o
 cases g with
 | some g =>
  obtain ⟨t',w⟩:=g
  simp only [TA]
  split
  ·rename_i e
   subst e
   split
   ·rename_i e
    subst e
    simp only [EW,aS.wants,h,FY h]
    cases w <;> rfl
   ·rename_i e
    simp only [EW,aS.wants,h,iB,cZ]
    cases w <;> cases b <;> simp_all [EF]
  ·simp only [EW,aS.wants,FY h]
 | none=>simp only [TA,EW,aS.wants,FY h]
theorem MF {s:St} {d:Option Nat} {v:V} {wr:List (Nat × Option aL)} {t:Nat} (h:¬ d = some t):(s.put d v wr).get t = s.get t:=by
 cases d with
 | none=>rfl
 | some a =>
  show lk ((a,v) :: s.fr) .any t = lk s.fr .any t
  have:¬ t = a:=fun e=>h (by rw [e])
  simp [lk,this]
theorem aHM {C:Nat->List D->Option D} {o:aS} {s s' : St} {t:Nat} (h:¬ o.dst = some t) (e:EW C o s = some s'):s'.get t = s.get t:=by
 unfold EW at e
 split at e
 ·split at e
  ·cases e; exact MF h
  ·cases e
 ·cases e; exact MF h
 ·cases e
theorem VA {C:Nat->List D->Option D} {t:Nat} {b:Bool}:∀ (l:List aS) {s:St} (h:s.get t = .d (.bool b)),lA C (G2 t b l) s = lA C l s
 | [],s,h=>rfl
 | o :: l,s,h=>by
  simp only [G2,lA,aIu h]
  cases e:EW C o s with
  | none=>rfl
  | some s' =>
   simp only
   split
   ·rfl
   ·rename_i hd
    exact VA l (by rw [aHM hd e]; exact h)
noncomputable def VC (T:CJ) (v:V) (t:Nat) (l:List aS) (s:St) (k:St->Option β):Option β:=match v with
 | .d (.bool b)=>if b = true then AW T (G2 t true l) s k else AW T (G2 t false l) s k
 | .tup []=>match l with
  | o :: r=>AW T r (s.put o.dst (.tup []) []) k
  | []=>none
 | _=>none
theorem aE3 {T:CJ} (d:Option Nat) (op:pF) (t:Nat) (w:Bool) (st:Nat) (l:List aS) (fr:List (Nat × V)) (bl:List (Nat × Option aL)) (k:St->Option β) :
  AW T (⟨d,op,some (t,w),st⟩ :: l) ⟨fr,bl⟩ k = rK fr t fun v=>VC T v t (⟨d,op,some (t,w),st⟩ :: l) ⟨fr,bl⟩ k:=by
 show _ = VC T (lk fr .any t) t _ _ k
 generalize hv:lk fr .any t = v
 have bad:∀ (q:EF v w = .bad),AW T (⟨d,op,some (t,w),st⟩ :: l) ⟨fr,bl⟩ k = none:=by
  intro q
  unfold AW
  simp only [lA,EW,aS.wants]
  rw [show (St.get ⟨fr,bl⟩ t) = v from hv,q]; rfl
 cases v with
 | d x =>
  cases x with
  | bool b =>
   simp only [VC]
   cases b with
   | true=>rw [Á rfl]; unfold AW; rw [VA (t:=t) (b:=true) (s:=⟨fr,bl⟩) _ hv]
   | false=>rw [Ã (by decide)]; unfold AW; rw [VA (t:=t) (b:=false) (s:=⟨fr,bl⟩) _ hv]
  | _=>exact bad rfl
 | tup vs =>
  cases vs with
  | nil =>
   simp only [VC]
   unfold AW
   simp only [lA,EW,aS.wants]
   rw [show (St.get ⟨fr,bl⟩ t) = _ from hv]
   rfl
  | cons x l=>exact bad rfl
 | _=>exact bad rfl
theorem aLX {T:CJ} (b:Bool) (t:Nat) (l:List aS) (s:St) (k:St->Option β):VC T (.d (.bool b)) t l s k = if b = true then AW T (G2 t true l) s k else AW T (G2 t false l) s k:=rfl
theorem aLK {T:CJ} (t d st:Nat) (op:pF) (g:Option (Nat × Bool)) (l:List aS) (fr:List (Nat × V)) (bl:List (Nat × Option aL)) (k:St->Option β):VC T (.tup []) t (⟨some d,op,g,st⟩ :: l) ⟨fr,bl⟩ k = AW T l ⟨(d,.tup []) :: fr,bl⟩ k:=rfl
theorem BK {T:CJ} {l l' : List aS} {s:St} {k:St->Option β} (h:l = l'):AW T l s k = AW T l' s k:=by rw [h]
section
variable {T:CJ} {d:Nat} {fr:List (Nat × V)} {bl:List (Nat × Option aL)} {k:V->Option β} {kw:V->List (Nat × Option aL)->Option β}
def TG (r:WY) (k:V->Option β) (kw:V->List (Nat × Option aL)->Option β):Option β:=match r with
 | none=>none
 | some (v,[])=>k v
 | some (v,p :: wr)=>kw v (p :: wr)
theorem aB0 (o:Option D):TG (WY.v o) k kw = o.bind fun x=>k (.d x):=by cases o <;> rfl
theorem aLp (x:d7):FS T d (.move x) fr bl k kw = fA fr x k:=rfl
def jX (b:Option aL) (x:Option β):Option β:=match b with
 | none=>x
 | some _=>none
theorem aPp (x:Option β):jX none x = x:=rfl
theorem aIN (z:List V):FS T d (.alloc z) fr bl k kw = cG bl d fun b=>jX b (kw (.ptr d 0) [(d,some (.box z))]):=by
 unfold FS cG jX
 simp only [iB]
 cases lk bl none d <;> rfl
def QD (v:V) (k:List V->Option β):Option β:=if v.known = true then k v.cells else none
theorem aLN (x:D) (k:List V->Option β):QD (.d x) k = k [.d x]:=rfl
theorem aC3 (ds:List D) (k:List V->Option β):QD (zZ ds) k = k (fL ds):=rfl
theorem aEM (i o:Nat) (k:List V->Option β):QD (.own i o) k = k [.own i o]:=rfl
theorem aN1 (x:d7):FS T d (.box x) fr bl k kw = cG bl d fun b=>jX b (fA fr x fun v=>QD v fun cs=>kw (.ptr d 0) [(d,some (.box cs))]):=by
 unfold FS cG jX fA QD
 simp only [iB]
 cases lk bl none d with
 | none =>
  simp only
  by_cases h:(cZ (lk fr .any) x).known = true
  ·rw [Á h,Á h]
  ·rw [Ã h,Ã h]
 | some b=>rfl
def OE (fr:List (Nat × V)):List d7->(List V->Option β)->Option β
 | [],k=>k []
 | x :: l,k=>fA fr x fun v=>OE fr l fun vs=>k (v :: vs)
theorem YJ (l:List d7) (k:List V->Option β):OE fr l k = k (l.map (cZ (lk fr .any))):=by
 induction l generalizing k with
 | nil=>rfl
 | cons x l ih=>simp only [OE,fA,ih,ø]
theorem aJk (k:List V->Option β):OE fr [] k = k []:=rfl
theorem aE4 (x:d7) (l:List d7) (k:List V->Option β):OE fr (x :: l) k = fA fr x fun v=>OE fr l fun vs=>k (v :: vs):=rfl
def RZ (fr:List (Nat × V)):List (Nat × Nat × d7)->(List (Nat × Nat × V)->Option β)->Option β
 | [],k=>k []
 | (o,s,x) :: l,k=>fA fr x fun v=>RZ fr l fun vs=>k ((o,s,v) :: vs)
theorem sS (op:pF):FS T d op fr bl k kw = TG (iB (call T) d (cZ (lk fr .any)) (lk bl none) op) k kw:=by
 unfold FS TG
 cases iB (call T) d (cZ (lk fr .any)) (lk bl none) op with
 | none=>rfl
 | some r=>obtain ⟨v,wr⟩:=r; cases wr <;> rfl
theorem QY (r:WY):TG r k kw = UO r fun v wr=>match wr with | []=>k v | p :: w=>kw v (p :: w):=by
 cases r with
 | none=>rfl
 | some r=>obtain ⟨v,wr⟩:=r; cases wr <;> rfl
def PG:List V->Nat->(V->Option β)->Option β
 | [],_,_=>none
 | c :: _,0,k=>k c
 | _ :: cs,n + 1,k=>PG cs n k
theorem XW (cs:List V) (n:Nat) (k:V->Option β):PG cs n k = cs[n]?.bind k:=by
 induction cs generalizing n with
 | nil=>rfl
 | cons c cs ih=>cases n with
  | zero=>rfl
  | succ n=>simp only [PG,ih,Ć]
theorem aO9 (c:V) (cs:List V) (k:V->Option β):PG (c :: cs) 0 k = k c:=rfl
theorem aP1 (c:V) (cs:List V) (n:Nat) (k:V->Option β):PG (c :: cs) (n + 1) k = PG cs n k:=rfl
def mL (ds:List D) (n:Nat) (k:D->Option β):Option β:=ds[n]?.bind k
def FF (ds:List D) (off size:Nat) (k:List D->Option β):Option β:=if off + size <= ds.length then k ((ds.drop off).take size) else none
def WQ (cs:List V) (off size:Nat) (k:List V->Option β):Option β:=if off + size <= cs.length then k ((cs.drop off).take size) else none
theorem aNR (ds:List D) (n:Nat) (k:V->Option β):PG (fL ds) n k = mL ds n fun x=>k (.d x):=by
 rw [XW]
 unfold fL mL
 rw [Ç]
 cases ds[n]? <;> rfl
theorem aHI (cs:List V) (n:Nat) (k:List V->Option β) (h:cs.length = n):WQ cs 0 n k = k cs:=by
 subst h
 simp [WQ]
theorem aNN (ds:List D) (off n:Nat) (k:List V->Option β):WQ (fL ds) off n k = FF ds off n fun l=>k (fL l):=by
 unfold WQ FF fL
 simp only [È,Ţ,List.map_drop]
def OI (size:Nat) (isAgg:Bool) (off:Nat) (b:Option aL) (k:V->Option β):Option β:=match b with
 | some (.box cs)=>if isAgg = true then WQ cs off size fun l=>k (.agg l) else PG cs off k
 | some (.fbox row)=>if isAgg = true then FF row off size fun l=>k (zZ l) else mL row off fun x=>k (.d x)
 | _=>none
def Y0 (size:Nat) (isAgg:Bool) (ver i off:Nat) (b:Option aL) (k:V->Option β):Option β:=match b with
 | some (.rows v e sz rows)=>if ver = v then rows[i]?.bind fun row=>(if isAgg = true then FF row off size fun l=>k (zZ l) else mL row off fun x=>k (.d x)) else none
 | _=>none
def F6 (size:Nat) (isAgg:Bool) (x:V) (bl:List (Nat × Option aL)) (k:V->Option β):Option β:=match x with
 | .ptr id off=>cG bl id fun b=>OI size isAgg off b k
 | .d (.ptr row off)=>if isAgg = true then FF row off size fun l=>k (zZ l) else mL row off fun x=>k (.d x)
 | .orow id ver i off=>cG bl id fun b=>Y0 size isAgg ver i off b k
 | _=>none
theorem aD2 (size:Nat) (isAgg:Bool) (x:d7):FS T d (.load size isAgg x) fr bl k kw = fA fr x fun v=>F6 size isAgg v bl k:=by
 rw [sS,QI]
 unfold fA
 generalize cZ (lk fr .any) x = v
 have hD:∀ row off,TG (aEb size isAgg off row) k kw = if isAgg = true then FF row off size fun l=>k (zZ l) else mL row off fun x=>k (.d x):=by
  intro row off
  unfold aEb
  cases isAgg with
  | true=>simp only [Č,FF]; split <;> rfl
  | false=>simp only [ö,Ĵ,mL]; cases row[off]? <;> rfl
 cases v with
 | ptr id off =>
  rw [aII]
  simp only [F6,cG]
  generalize lk bl none id = b
  cases b with
  | none=>rfl
  | some b=>cases b with
   | box cs =>
    cases isAgg with
    | true=>simp only [aNx,OI,Č,WQ]; split <;> rfl
    | false=>simp only [aP5,OI,ö,Ĵ,XW]; cases cs[off]? <;> rfl
   | fbox row=>exact hD row off
   | _=>rfl
 | d x=>cases x with
  | ptr row off=>exact hD row off
  | _=>rfl
 | orow id ver i off =>
  rw [aM1]
  simp only [F6,cG]
  generalize lk bl none id = b
  cases b with
  | none=>rfl
  | some b=>cases b with
   | rows v e sz rows =>
    simp only [aLV,Y0]
    split
    ·cases rows[i]? with
     | none=>rfl
     | some row=>exact hD row off
    ·rfl
   | _=>rfl
 | _=>rfl
theorem aJg (size:Nat) (isAgg:Bool) (id off:Nat):F6 size isAgg (.ptr id off) bl k = cG bl id fun b=>OI size isAgg off b k:=rfl
theorem aK9 (size:Nat) (row:List D) (off:Nat):F6 size true (.d (.ptr row off)) bl k = FF row off size fun l=>k (zZ l):=rfl
theorem aKk (size:Nat) (row:List D) (off:Nat):F6 size false (.d (.ptr row off)) bl k = mL row off fun x=>k (.d x):=rfl
theorem aPT (size:Nat) (isAgg:Bool) (id ver i off:Nat):F6 size isAgg (.orow id ver i off) bl k = cG bl id fun b=>Y0 size isAgg ver i off b k:=rfl
theorem aHy (size off:Nat) (row:List D):OI size false off (some (.fbox row)) k = mL row off fun x=>k (.d x):=rfl
theorem aLE (size off:Nat) (cs:List V):OI size false off (some (.box cs)) k = PG cs off k:=rfl
theorem aKB (size off:Nat) (c:V) (cs:List V):OI size true off (some (.box (c :: cs))) k = WQ (c :: cs) off size fun l=>k (.agg l):=rfl
theorem aMl (size off:Nat) (ds:List D):OI size true off (some (.box (fL ds))) k = FF ds off size fun l=>k (zZ l):=by
 show WQ (fL ds) off size (fun l=>k (.agg l)) = _
 rw [aNN]; rfl
theorem aDU {α:Type} (size:Nat) (isAgg:Bool) (v i off e sz:Nat) (c:α->List D) (xs:List α):Y0 size isAgg v i off (some (.rows v e sz (cM c xs))) k = xs[i]?.bind fun x=>F6 size isAgg (.d (.ptr (c x) off)) [] k:=by
 simp only [Y0,Č,cM,Ç]
 cases xs[i]? <;> rfl
def RG:List V->Nat->V->(List V->Option β)->Option β
 | [],_,_,_=>none
 | _ :: cs,0,v,k=>k (v :: cs)
 | c :: cs,n + 1,v,k=>RG cs n v fun l=>k (c :: l)
theorem aCL (cs:List V) (n:Nat) (v:V) (k:List V->Option β):RG cs n v k = if n + 1 <= cs.length then k (lE cs n [v]) else none:=by
 induction cs generalizing n k with
 | nil=>rfl
 | cons c cs ih=>cases n with
  | zero=>rw [Á (by simp)]; cases cs <;> rfl
  | succ n =>
   simp only [RG,ih,lE,ï]
   by_cases h:n + 1 <= cs.length
   ·rw [Á h,Á (by omega)]
   ·rw [Ã h,Ã (by omega)]
theorem aQh (c:V) (cs:List V) (v:V) (k:List V->Option β):RG (c :: cs) 0 v k = k (v :: cs):=rfl
theorem aPH (c:V) (cs:List V) (n:Nat) (v:V) (k:List V->Option β):RG (c :: cs) (n + 1) v k = RG cs n v fun l=>k (c :: l):=rfl
def D4 (cs:List V) (off:Nat) (ws:List V) (k:List V->Option β):Option β:=if off + ws.length <= cs.length then k (lE cs off ws) else none
theorem aBd {α:Type} (l:List α) (n:Nat):lE l n [] = l:=by cases l <;> rfl
theorem aDj (c:V) (cs:List V) (off:Nat) (ws:List V) (k:List V->Option β) (hw:ws ≠ []):D4 (c :: cs) (off + 1) ws k = D4 cs off ws fun l=>k (c :: l):=by
 unfold D4
 cases ws with
 | nil=>exact absurd rfl hw
 | cons w ws =>
  simp only [ï,lE]
  by_cases h:off + (ws.length + 1) <= cs.length
  ·rw [Á h,Á (by omega)]
  ·rw [Ã h,Ã (by omega)]
theorem aF6 (c:V) (cs:List V) (w:V) (ws:List V) (k:List V->Option β):D4 (c :: cs) 0 (w :: ws) k = D4 cs 0 ws fun l=>k (w :: l):=by
 unfold D4
 simp only [ï,lE]
 by_cases h:0 + ws.length <= cs.length
 ·rw [Á h,Á (by omega)]
 ·rw [Ã h,Ã (by omega)]
theorem aFu (cs:List V) (k:List V->Option β):D4 cs 0 [] k = k cs:=by simp [D4,aBd]
def wU (size off id:Nat) (v:V) (b:Option aL) (kw:V->List (Nat × Option aL)->Option β):Option β:=match b with
 | some (.box cs)=>if v.cells.length = size ∧ off + size <= cs.length ∧ v.known = true then kw .any [(id,some (.box (lE cs off v.cells)))] else none
 | _=>none
def T8 (size ver i off id:Nat) (v:V) (bl:List (Nat × Option aL)) (b:Option aL) (kw:V->List (Nat × Option aL)->Option β):Option β:=UO (Y7 size ver i off id (CI (lk bl none) v) (aM (pE (lk bl none)) v.cells) b) kw
def YK (size:Nat) (p v:V) (bl:List (Nat × Option aL)) (kw:V->List (Nat × Option aL)->Option β):Option β:=match p with
 | .ptr id off=>cG bl id fun b=>wU size off id v b kw
 | .orow id ver i off=>cG bl id fun b=>T8 size ver i off id v bl b kw
 | _=>none
theorem aHj (size:Nat) (x v:d7):FS T d (.store size x v) fr bl k kw = fA fr x fun p=>fA fr v fun w=>YK size p w bl kw:=by
 rw [sS,aIr]
 unfold fA
 generalize cZ (lk fr .any) x = p
 generalize cZ (lk fr .any) v = w
 cases p with
 | ptr id off =>
  rw [aJs]
  simp only [YK,cG]
  generalize lk bl none id = b
  cases b with
  | none=>rfl
  | some b=>cases b with
   | box cs =>
    simp only [aFF,wU]
    by_cases h:w.cells.length = size ∧ off + size <= cs.length ∧ w.known = true
    ·rw [Á h,Á h]; rfl
    ·rw [Ã h,Ã h]; rfl
   | _=>rfl
 | orow id ver i off =>
  rw [aJG]
  simp only [YK,cG,T8]
  rw [QY]
  generalize lk bl none id = b
  cases b with
  | none=>rfl
  | some b=>cases b with
   | rows v e sz rows =>
    simp only [Y7]
    by_cases h:ver = v
    ·rw [Á h]
     cases rows[i]? with
     | none=>rfl
     | some row =>
      cases aM (pE (lk bl none)) w.cells with
      | none=>rfl
      | some ds =>
       simp only
       split <;> rfl
    ·rw [Ã h]; rfl
   | _=>rfl
 | _=>rfl
theorem aK6 (size id off:Nat) (v:V):YK size (.ptr id off) v bl kw = cG bl id fun b=>wU size off id v b kw:=rfl
theorem aL2 (size id ver i off:Nat) (v:V):YK size (.orow id ver i off) v bl kw = cG bl id fun b=>T8 size ver i off id v bl b kw:=rfl
theorem aAE (off id:Nat) (w c:V) (cs:List V) (hw:w.one = true) (hk:w.known = true):wU 1 off id w (some (.box (c :: cs))) kw = RG (c :: cs) off w fun l=>kw .any [(id,some (.box l))]:=by
 have hc:w.cells = [w]:=by cases w <;> first | rfl | cases hw
 rw [aCL]
 simp only [wU,hc,hk]
 by_cases h:off + 1 <= (c :: cs).length
 ·rw [Á h,Á ⟨rfl,h,trivial⟩]
 ·rw [Ã h,Ã (fun q=>h q.2.1)]
theorem aHm (off id:Nat) (x:D) (c:V) (cs:List V):wU 1 off id (.d x) (some (.box (c :: cs))) kw = RG (c :: cs) off (.d x) fun l=>kw .any [(id,some (.box l))]:=aAE off id _ c cs rfl rfl
theorem aDB (off id i v:Nat) (c:V) (cs:List V):wU 1 off id (.own i v) (some (.box (c :: cs))) kw = RG (c :: cs) off (.own i v) fun l=>kw .any [(id,some (.box l))]:=aAE off id _ c cs rfl rfl
def UH (cs:List V) (n:Nat) (x:Option β):Option β:=if cs.length = n then x else none
theorem aO6 (x:Option β):UH [] 0 x = x:=rfl
theorem aPm (c:V) (cs:List V) (n:Nat) (x:Option β):UH (c :: cs) (n + 1) x = UH cs n x:=by
 unfold UH
 simp only [ï]
 by_cases h:cs.length = n
 ·rw [Á h,Á (by omega)]
 ·rw [Ã h,Ã (by omega)]
theorem aCu (size off id:Nat) (ws:List V) (c:V) (cs:List V):wU size off id (.agg ws) (some (.box (c :: cs))) kw = UH ws size (D4 (c :: cs) off ws fun l=>kw .any [(id,some (.box l))]):=by
 unfold UH D4
 show (if ws.length = size ∧ off + size <= (c :: cs).length ∧ V.known (.agg ws) = true then kw .any [(id,some (.box (lE (c :: cs) off ws)))] else none) = _
 by_cases h:ws.length = size
 ·subst h
  rw [Á rfl]
  by_cases h:off + ws.length <= (c :: cs).length
  ·rw [Á h,Á ⟨rfl,h,rfl⟩]
  ·rw [Ã h,Ã (fun q=>h q.2.1)]
 ·rw [Ã h,Ã (fun q=>h q.1)]
theorem aAU {α:Type}:∀ (l m:List α),l.length = m.length->lE l 0 m = m
 | [],[],_=>rfl
 | _ :: l,x :: m,h=>by
  simp only [lE]
  rw [aAU l m (by simpa using h)]
 | [],_ :: _,h=>by simp at h
 | _ :: _,[],h=>by simp at h
theorem uT (n id:Nat) (ds:List D) (hd:ds.length = n) (cs:List V) (hc:cs.length = n):wU n 0 id (zZ ds) (some (.box cs)) kw = kw .any [(id,some (.box (fL ds)))]:=by
 have e:(fL ds).length = n:=by rw [← hd]; simp [fL]
 show (if (fL ds).length = n ∧ 0 + n <= cs.length ∧ V.known (zZ ds) = true then kw .any [(id,some (.box (lE cs 0 (fL ds))))] else none) = _
 rw [Á ⟨e,by omega,rfl⟩,aAU _ _ (by rw [hc,e])]
def aRs (v:V) (bl:List (Nat × Option aL)) (k:V->Option β):Option β:=match v with
 | .ptr id off=>k (.ptr id off)
 | .d (.ptr row off)=>k (.d (.ptr row off))
 | .orow id ver i off=>cG bl id fun b=>match b with
  | some (.rows v _ _ _)=>if ver = v then k (.orow id ver i off) else none
  | _=>none
 | _=>none
theorem aBX (x:d7):FS T d (.nilCheck x) fr bl k kw = fA fr x fun v=>aRs v bl k:=by
 unfold FS fA
 simp only [iB]
 generalize cZ (lk fr .any) x = v
 cases v with
 | d x=>cases x <;> rfl
 | orow id ver i off =>
  simp only [aRs,cG]
  generalize lk bl none id = b
  cases b with
  | none=>rfl
  | some b=>cases b with
   | rows v e s rows=>simp only; by_cases h:ver = v <;> simp [h]
   | _=>rfl
 | _=>rfl
theorem aQW (id off:Nat):aRs (.ptr id off) bl k = k (.ptr id off):=rfl
def aGN (id ver i off:Nat) (b:Option aL) (k:V->Option β):Option β:=match b with
 | some (.rows v _ _ _)=>if ver = v then k (.orow id ver i off) else none
 | _=>none
theorem aNW (id ver i off e s:Nat) (rows:List (List D)):aGN id ver i off (some (.rows ver e s rows)) k = k (.orow id ver i off):=Á rfl
def faK (off:Nat) (v:V) (bl:List (Nat × Option aL)) (k:V->Option β):Option β:=match v with
 | .ptr id o=>k (.ptr id (o + off))
 | .d (.ptr row o)=>k (.d (.ptr row (o + off)))
 | .orow id ver i o=>cG bl id fun b=>aGN id ver i (o + off) b k
 | _=>none
theorem aAb (off:Nat) (x:d7):FS T d (.fieldAddr off x) fr bl k kw = fA fr x fun v=>faK off v bl k:=by
 unfold FS fA
 simp only [iB]
 generalize cZ (lk fr .any) x = v
 cases v with
 | d x=>cases x <;> rfl
 | orow id ver i o =>
  simp only [faK,cG]
  generalize lk bl none id = b
  cases b with
  | none=>rfl
  | some b=>cases b with
   | rows v e s rows=>simp only [aGN]; by_cases h:ver = v <;> simp [h]
   | _=>rfl
 | _=>rfl
theorem aSA (off id o:Nat):faK off (.ptr id o) bl k = k (.ptr id (o + off)):=rfl
theorem aTz (off:Nat) (row:List D) (o:Nat):faK off (.d (.ptr row o)) bl k = k (.d (.ptr row (o + off))):=rfl
theorem aS3 (off id ver i o:Nat):faK off (.orow id ver i o) bl k = cG bl id fun b=>aGN id ver i (o + off) b k:=rfl
def E0 (c:Nat) (op:BinOp) (a b:V) (k:V->Option β):Option β:=(IL c op a b).bind fun x=>k (.d x)
theorem aNz (c:Nat) (op:BinOp) (x y:d7):FS T d (.bin c op x y) fr bl k kw = fA fr x fun a=>fA fr y fun b=>E0 c op a b k:=by
 rw [sS]
 exact aB0 _
section
variable (kd:IntKind) (x y:Int)
theorem aLJ:E0 0 .add (.d (.int kd x)) (.d (.int kd y)) k = k (.d (.int kd (IntKind.wrap kd (x + y)))):=by simp [E0,IL,yL]
theorem aJX:E0 0 .sub (.d (.int kd x)) (.d (.int kd y)) k = k (.d (.int kd (IntKind.wrap kd (x - y)))):=by simp [E0,IL,yL]
theorem aJW:E0 0 .mul (.d (.int kd x)) (.d (.int kd y)) k = k (.d (.int kd (IntKind.wrap kd (x * y)))):=by simp [E0,IL,yL]
theorem aKF:E0 0 .eql (.d (.int kd x)) (.d (.int kd y)) k = k (.d (.bool (x == y))):=by simp [E0,IL,yL]
theorem aK5:E0 0 .neq (.d (.int kd x)) (.d (.int kd y)) k = k (.d (.bool (x != y))):=by simp [E0,IL,yL]
theorem aJr:E0 0 .lss (.d (.int kd x)) (.d (.int kd y)) k = k (.d (.bool (decide (x < y)))):=by simp [E0,IL,yL]
theorem aLO:E0 0 .leq (.d (.int kd x)) (.d (.int kd y)) k = k (.d (.bool (decide (x <= y)))):=by simp [E0,IL,yL]
theorem aKx:E0 0 .gtr (.d (.int kd x)) (.d (.int kd y)) k = k (.d (.bool (decide (x > y)))):=by simp [E0,IL,yL]
theorem aKW:E0 0 .geq (.d (.int kd x)) (.d (.int kd y)) k = k (.d (.bool (decide (x ≥ y)))):=by simp [E0,IL,yL]
theorem aJS:E0 0 .and (.d (.int kd x)) (.d (.int kd y)) k = k (.d (.int kd (IntKind.wrap kd (BitVec.ofInt (IntKind.bits kd) x &&& BitVec.ofInt (IntKind.bits kd) y).toNat))):=by simp [E0,IL,yL]
theorem aKH {x y:Int} {k:V->Option β}:E0 0 .shl (.d (.int .i64 x)) (.d (.int .i64 y)) k = if 0 <= y ∧ y.toNat <= 64 then k (.d (.int .i64 (IntKind.wrap .i64 (x * 2 ^ y.toNat)))) else none:=by
 simp only [E0,IL,yL,Č,show IntKind.bits .i64 = 64 from rfl]; split <;> rfl
theorem aLm {x y:Int} {k:V->Option β}:E0 0 .shr (.d (.int .i64 x)) (.d (.int .i64 y)) k = if 0 <= y ∧ y.toNat <= 64 then k (.d (.int .i64 (x.fdiv (2 ^ y.toNat)))) else none:=by
 simp only [E0,IL,yL,Č,show IntKind.bits .i64 = 64 from rfl]; split <;> rfl
end
section
variable (x y:ByteArray)
end
theorem aIh (x y:Bool):E0 1 .eql (.d (.bool x)) (.d (.bool y)) k = k (.d (.bool (x == y))):=rfl
def aEv (o:Option D) (k:V->Option β):Option β:=o.bind fun x=>k (.d x)
theorem BI {o o' : Option D} {k:V->Option β} (h:o = o'):aEv o k = aEv o' k:=by rw [h]
theorem aNl (ks:List Nat) (neg:Bool) (x y:d7):FS T d (.eqS ks neg x y) fr bl k kw = fA fr x fun a=>fA fr y fun b=>aEv (eqV ks neg a b) k:=by
 rw [sS]
 exact aB0 _
def US:List Nat->List V->List V->(Bool->Option β)->Option β:=fun ks xs ys k=>match jA ks xs ys with
 | some b=>k b
 | none=>none
def aQg (ks:List Nat) (neg:Bool) (a b:V) (k:V->Option β):Option β:=match a,b with
 | .agg xs,.agg ys=>US ks xs ys fun b=>k (.d (.bool (if neg then !b else b)))
 | _,_=>none
theorem aM3 (ks:List Nat) (neg:Bool) (x y:d7):FS T d (.eqS ks neg x y) fr bl k kw = fA fr x fun a=>fA fr y fun b=>aQg ks neg a b k:=by
 rw [aNl]
 unfold fA
 generalize cZ (lk fr .any) x = a
 generalize cZ (lk fr .any) y = b
 cases a with
 | agg xs=>cases b with
  | agg ys =>
   simp only [eqV,aQg,US,aEv]
   cases jA ks xs ys <;> rfl
  | _=>rfl
 | _=>cases b <;> rfl
section
variable {k:V->Option β}
theorem aJQ (ks:List Nat) (xs:List D) (ys:List V):aQg ks false (zZ xs) (.agg ys) k = US ks (fL xs) ys fun b=>k (.d (.bool b)):=rfl
theorem aL1 (ks:List Nat) (xs ys:List D):aQg ks true (zZ xs) (zZ ys) k = US ks (fL xs) (fL ys) fun b=>k (.d (.bool !b)):=rfl
end
section
variable {k:Bool->Option β}
theorem aPx (kd:IntKind) (x y:Int):US [0] [.d (.int kd x)] [.d (.int kd y)] k = k (x == y):=by simp [US,jA,I0]
theorem aRL (kd:IntKind) (x y:Int) (c:Nat) (ks:List Nat) (xs ys:List V):US (0 :: c :: ks) (.d (.int kd x) :: xs) (.d (.int kd y) :: ys) k = US (c :: ks) xs ys fun b=>k ((x == y) && b):=by
 simp only [US,jA,I0,Č]
 cases jA (c :: ks) xs ys <;> rfl
end
def aLj (kd:IntKind) (x:Int):List V->(V->Option β)->Option β:=fun l k=>aEv (aED kd x l) k
def aQk (l:List V) (k:V->Option β):Option β:=aEv (aOY l) k
theorem aOv (l:List d7):FS T d (.min l) fr bl k kw = OE fr l fun vs=>aQk vs k:=by
 rw [sS,YJ]
 exact aB0 _
section
variable {k:V->Option β}
theorem aPC (kd:IntKind) (x:Int) (l:List V):aQk (.d (.int kd x) :: l) k = aLj kd x l k:=rfl
theorem aMy (kd:IntKind) (x:Int):aLj kd x [] k = k (.d (.int kd x)):=rfl
theorem aIC (kd:IntKind) (x y:Int) (l:List V):aLj kd x (.d (.int kd y) :: l) k = aLj kd (if y < x then y else x) l k:=by simp [aLj,aED]
end
def unK (op:UnOp) (v:V) (k:V->Option β):Option β:=aEv (unV op v) k
theorem aRm (op:UnOp) (x:d7):FS T d (.un op x) fr bl k kw = fA fr x fun a=>unK op a k:=by
 rw [sS]
 exact aB0 _
theorem aOo (b:Bool):unK .not (.d (.bool b)) k = k (.d (.bool !b)):=rfl
theorem aNv (kd:IntKind) (n:Int):unK .neg (.d (.int kd n)) k = k (.d (.int kd (IntKind.wrap kd (0 - n)))):=rfl
def UL (v:V) (bl:List (Nat × Option aL)) (k:List (List D)->Option β):Option β:=(pB (lk bl none) v).bind k
def U3 (ver:Nat) (b:Option aL) (k:List (List D)->Option β):Option β:=(aQn ver b).bind k
theorem aL8 (rows:List (List D)) (k:List (List D)->Option β):UL (.d (.sl rows)) bl k = k rows:=rfl
theorem aAO (id ver:Nat) (k:List (List D)->Option β):UL (.own id ver) bl k = cG bl id fun b=>U3 ver b k:=by
 unfold UL cG U3
 simp only [pB]
 generalize lk bl none id = b
 cases b with
 | none=>rfl
 | some b=>cases b <;> rfl
theorem VY (v e s:Nat) (rows:List (List D)) (k:List (List D)->Option β):U3 v (some (.rows v e s rows)) k = k rows:=by simp [U3,aQn]
theorem aN7 (x:d7):FS T d (.len x) fr bl k kw = fA fr x fun a=>UL a bl fun rows=>k (.d (.int .i64 rows.length)):=by
 unfold FS fA UL
 simp only [iB]
 cases pB (lk bl none) (cZ (lk fr .any) x) <;> rfl
def CQ (ds:List D) (n:Nat) (x:Option β):Option β:=if ds.length = n then x else none
def aKr (size:Nat) (x i:V) (bl:List (Nat × Option aL)) (k:V->Option β):Option β:=TG (aCf size x i (lk bl none)) k fun _ _=>none
theorem aIt {size:Nat} {x i:V} {b:Nat->Option aL} {kw' : V->List (Nat × Option aL)->Option β}:TG (aCf size x i b) k kw = TG (aCf size x i b) k kw':=by
 have:∀ r,aCf size x i b = some r->r.2 = []:=by
  intro r
  unfold aCf
  intro e
  repeat' split at e
  all_goals first | cases e; rfl | cases e
 cases h:aCf size x i b with
 | none=>rfl
 | some r=>obtain ⟨v,wr⟩:=r; have:=this _ h; dsimp only at this; subst this; rfl
theorem aAj (size:Nat) (x i:d7):FS T d (.indexAddr size x i) fr bl k kw = fA fr x fun a=>fA fr i fun b=>aKr size a b bl k:=by
 rw [sS,Z5]
 unfold fA aKr
 exact aIt
theorem aM2 {α:Type} (size:Nat) (c:α->List D) (xs:List α) (kd:IntKind) (n:Int):aKr size (.d (.sl (cM c xs))) (.d (.int kd n)) bl k = (at? xs n).bind fun x=>CQ (c x) size (k (.d (.ptr (c x) 0))):=by
 unfold aKr
 rw [QY,aM0]
 rfl
def aK3 (size id ver:Nat) (n:Int) (b:Option aL) (k:V->Option β):Option β:=TG (aQ3 size id ver n b) k fun _ _=>none
theorem aMD (size id ver:Nat) (kd:IntKind) (n:Int):aKr size (.own id ver) (.d (.int kd n)) bl k = cG bl id fun b=>aK3 size id ver n b k:=rfl
theorem aFa {α:Type} (size id v e:Nat) (n:Int) (c:α->List D) (xs:List α):aK3 size id v n (some (.rows v e size (cM c xs))) k = if 0 <= n ∧ n.toNat < xs.length then k (.orow id v n.toNat 0) else none:=by
 unfold aK3
 rw [QY,aID,Á rfl,Á rfl,J9]
def aO7 (fr:List (Nat × V)) (o:Option d7) (k:Option V->Option β):Option β:=match o with
 | none=>k none
 | some x=>fA fr x fun v=>k (some v)
theorem aQ2 (k:Option V->Option β):aO7 fr none k = k none:=rfl
theorem aRC (x:d7) (k:Option V->Option β):aO7 fr (some x) k = fA fr x fun v=>k (some v):=rfl
def VJ (size:Nat) (x:V) (lo hi:Option V) (bl:List (Nat × Option aL)) (k:V->Option β) (kw:V->List (Nat × Option aL)->Option β):Option β:=TG (GW (lk bl none) size x lo hi) k kw
theorem aHD (size:Nat) (x:d7) (lo hi:Option d7):FS T d (.slice size x lo hi) fr bl k kw = fA fr x fun a=>aO7 fr lo fun l=>aO7 fr hi fun h=>VJ size a l h bl k kw:=by
 rw [sS,aIl]
 cases lo <;> cases hi <;> rfl
section
variable {α:Type} (size:Nat) (c:α->List D) (xs:List α) (hs:sized size (cM c xs) = true)
include hs
theorem aH1 {lo hi:Option V} {l h:Int} (hl:VS lo 0 = some l) (hh:VS hi (xs.length:Int) = some h):VJ size (.d (.sl (cM c xs))) lo hi bl k kw = if HS xs.length l h then k (.d (.sl (cM c (SD xs l h)))) else none:=by
 unfold VJ
 rw [QY,aHi _ size c xs lo hi l h hl hh hs]
theorem aHG (kd:IntKind) (h:Int):VJ size (.d (.sl (cM c xs))) none (some (.d (.int kd h))) bl k kw = if HS xs.length 0 h then k (.d (.sl (cM c (SD xs 0 h)))) else none:=aH1 size c xs hs rfl rfl
end
def aAi (e size bytes d:Nat) (x y:V) (bl:List (Nat × Option aL)) (kw:V->List (Nat × Option aL)->Option β):Option β:=UL y bl fun new =>
 if sized size new = true then
   match x with
   | .nil=>cG bl d fun b=>jX b (if new.length * bytes <= 140737488355328 then kw (.own d 0) [(d,some (.rows 0 e size new))] else none)
   | .own id ver=>cG bl id fun b=>match b with
    | some (.rows v e' size' rows)=>if ver = v ∧ e' = e ∧ size' = size ∧ (rows.length + new.length) * bytes <= 140737488355328 then kw (.own id (ver + 1)) [(id,some (.rows (ver + 1) e size (rows ++ new)))] else none
    | _=>none
   | _=>none
   else none
theorem aET (e size bytes:Nat) (x y:d7):FS T d (.append e size bytes x y) fr bl k kw = fA fr x fun a=>fA fr y fun b=>aAi e size bytes d a b bl kw:=by
 unfold FS fA aAi UL cG jX
 simp only [iB]
 generalize cZ (lk fr .any) x = v
 cases pB (lk bl none) (cZ (lk fr .any) y) with
 | none=>rfl
 | some new =>
  simp only [À]
  by_cases hs:sized size new = true
  ·rw [Á hs,Á hs]
   cases v with
   | nil =>
    simp only
    cases lk bl none d with
    | none =>
     simp only
     by_cases h:new.length * bytes <= 140737488355328
     ·rw [Á h,Á h]
     ·rw [Ã h,Ã h]
    | some b=>rfl
   | own id ver =>
    simp only
    generalize lk bl none id = b
    cases b with
    | none=>rfl
    | some b=>cases b with
     | rows v e' size' rows =>
      simp only
      by_cases h:ver = v ∧ e' = e ∧ size' = size ∧ (rows.length + new.length) * bytes <= 140737488355328
      ·rw [Á h,Á h]
      ·rw [Ã h,Ã h]
     | _=>rfl
   | _=>rfl
  ·rw [Ã hs,Ã hs]
def aD0 {α:Type} (e size bytes d:Nat) (x:V) (c:α->List D) (ys:List α) (bl:List (Nat × Option aL)) (kw:V->List (Nat × Option aL)->Option β):Option β:=match x with
   | .nil=>cG bl d fun b=>jX b (if ys.length * bytes <= 140737488355328 then kw (.own d 0) [(d,some (.rows 0 e size (cM c ys)))] else none)
   | .own id ver=>cG bl id fun b=>match b with
    | some (.rows v e' size' rows)=>if ver = v ∧ e' = e ∧ size' = size ∧ (rows.length + ys.length) * bytes <= 140737488355328 then kw (.own id (ver + 1)) [(id,some (.rows (ver + 1) e size (rows ++ cM c ys)))] else none
    | _=>none
   | _=>none
theorem aIQ {α:Type} (e size bytes d:Nat) (x y:V) (c:α->List D) (ys:List α) (hy:∀ k' : List (List D)->Option β,UL y bl k' = k' (cM c ys)) (hs:sized size (cM c ys) = true):aAi e size bytes d x y bl kw = aD0 e size bytes d x c ys bl kw:=by
 unfold aAi aD0
 rw [hy,Á hs,J9]
theorem aGI {α:Type} (e size bytes d:Nat) (x:V) (c:α->List D) (ys:List α) (hs:sized size (cM c ys) = true):aAi e size bytes d x (.d (.sl (cM c ys))) bl kw = aD0 e size bytes d x c ys bl kw:=aIQ e size bytes d x _ c ys (fun _=>rfl) hs
def aKR (e size bytes d:Nat) (x:V) (ver:Nat) (b:Option aL) (bl:List (Nat × Option aL)) (kw:V->List (Nat × Option aL)->Option β):Option β:=U3 ver b fun new=>aAi e size bytes d x (.d (.sl new)) bl kw
theorem aMG (e size bytes d id ver:Nat) (x:V):aAi e size bytes d x (.own id ver) bl kw = cG bl id fun b=>aKR e size bytes d x ver b bl kw:=by
 show aAi e size bytes d x (.own id ver) bl kw = U3 ver (lk bl none id) fun new=>aAi e size bytes d x (.d (.sl new)) bl kw
 unfold aAi
 rw [aAO]
 rfl
theorem aFS {α:Type} (e size bytes d v e' s' : Nat) (x:V) (c:α->List D) (ys:List α) (hs:sized size (cM c ys) = true):aKR e size bytes d x v (some (.rows v e' s' (cM c ys))) bl kw = aD0 e size bytes d x c ys bl kw:=by
 unfold aKR
 rw [VY,aGI _ _ _ _ _ _ _ hs]
def aLy {α:Type} (e size bytes id ver:Nat) (c:α->List D) (ys:List α) (b:Option aL) (kw:V->List (Nat × Option aL)->Option β):Option β:=match b with
    | some (.rows v e' size' rows)=>if ver = v ∧ e' = e ∧ size' = size ∧ (rows.length + ys.length) * bytes <= 140737488355328 then kw (.own id (ver + 1)) [(id,some (.rows (ver + 1) e size (rows ++ cM c ys)))] else none
    | _=>none
theorem aJa {α:Type} (e size bytes d id ver:Nat) (c:α->List D) (ys:List α):aD0 e size bytes d (.own id ver) c ys bl kw = cG bl id fun b=>aLy e size bytes id ver c ys b kw:=rfl
theorem aFB {α:Type} (e size bytes id v:Nat) (c:α->List D) (xs ys:List α):aLy e size bytes id v c ys (some (.rows v e size (cM c xs))) kw = if (xs.length + ys.length) * bytes <= 140737488355328 then kw (.own id (v + 1)) [(id,some (.rows (v + 1) e size (cM c (xs ++ ys))))] else none:=by
 simp only [aLy,true_and,J9,aIs]
def SB (e:Nat) (rows:List (List D)) (k:List (List D)->Option β):Option β:=k rows
def W7 (v:V) (bl:List (Nat × Option aL)) (k:List D->List (Nat × Option aL)->Option β):Option β:=match aM (pE (lk bl none)) v.cells with
 | some row=>k row (CI (lk bl none) v)
 | none=>none
end
section
end
end
end Vm
end
end Go.Proofs.Ytgjcnbgfaimepaa
