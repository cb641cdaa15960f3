/- The small machine. -/
import Derived.Test.YtoefdnkjcfoccaaDoorVmD
namespace Go.Proofs.YtoefdnkjcfoccaaDoor
section
namespace Vm
open Go.RowKit
section
variable {β:Type}
noncomputable def bM (T:wF) (c:aP) (s:St) (k:Ex->St->Option β):Option β:=(ev T c s).bind fun p=>k p.1 p.2
noncomputable def uX (T:wF) (l:List aY) (s:St) (k:St->Option β):Option β:=(j5 (call T) l s).bind k
noncomputable def aNy (T:wF) (l:List aY) (ps:List (Nat × Nat)) (s:St) (k:St->Option β):Option β:=(fG (call T) l (some ps) s).bind k
def H3 (r:LA) (k:V->List (Nat × Option aO)->Option β):Option β:=match r with
 | some (v,wr)=>k v wr
 | none=>none
def NR (v:V) (x y:Option β):Option β:=match v with
 | .d (.bool b)=>if b = true then x else y
 | _=>none
def aNk (k1:St->Option β) (k:Ex->St->Option β):Ex->St->Option β
 | .normal,s=>k1 s
 | e,s=>k e s
def T5 (id:Nat) (k:Ex->St->Option β):Ex->St->Option β
 | .exit id',s=>if id' = id then k .normal s else k (.exit id') s
 | e,s=>k e s
def aBj (m:xF) (k:Ex->St->Option β):Ex->St->Option β
 | .normal,s=>k .normal (m.app s)
 | e,s=>k e s
theorem qD {v v' : V} {x y:Option β} (h:v = v'):NR v x y = NR v' x y:=by rw [h]
theorem aF3 (v:V) (wr:List (Nat × Option aO)) (k:V->List (Nat × Option aO)->Option β):H3 (some (v,wr)) k = k v wr:=rfl
theorem aBV (b:Bool) (x y:Option β):NR (.d (.bool b)) x y = if b = true then x else y:=rfl
variable {T:wF} {k:Ex->St->Option β}
theorem aLe (s:St):bM T .skip s k = k .normal s:=by unfold bM; rw [aNj]; rfl
theorem aJ5 (id:Nat) (s:St):bM T (.exit id) s k = k (.exit id) s:=by unfold bM; rw [aQq]; rfl
theorem aNm (s:St):bM T .ret s k = k .ret s:=by unfold bM; rw [aSq]; rfl
theorem aCM (l:List aY) (s:St):bM T (.region l none) s k = uX T l s (k .normal):=by
 unfold bM uX
 rw [VZ]
 simp only [fG]
 cases j5 (call T) l s <;> rfl
theorem aKv (l:List aY) (ps:List (Nat × Nat)) (s:St):bM T (.region l (some ps)) s k = aNy T l ps s (k .normal):=by
 unfold bM aNy
 rw [VZ]
 cases fG (call T) l (some ps) s <;> rfl
theorem aN1 (a b:aP) (s:St):bM T (.seq a b) s k = bM T a s (aNk (fun s'=>bM T b s' k) k):=by
 unfold bM
 rw [aR0]
 cases ev T a s with
 | none=>rfl
 | some r =>
  obtain ⟨e,s'⟩:=r
  cases e <;> rfl
theorem aKT (c:bO) (a b:aP) (s:St):bM T (.cond c a b) s k = NR (bN s.get c) (bM T a s k) (bM T b s k):=by
 unfold bM
 rw [aQe]
 generalize bN s.get c = v
 cases v with
 | d x=>cases x with
  | bool b=>cases b <;> rfl
  | _=>rfl
 | _=>rfl
theorem aGc (id:Nat) (a:aP) (s:St):bM T (.block id a) s k = bM T a s (T5 id k):=by
 unfold bM
 rw [aJa]
 cases ev T a s with
 | none=>rfl
 | some r =>
  obtain ⟨e,s'⟩:=r
  cases e with
  | normal=>rfl
  | exit i =>
   simp only [À,T5]
   by_cases h:i = id
   ·simp [h]
   ·simp [h]
  | ret=>rfl
theorem aNT (m:xF) (a:aP) (s:St):bM T (.pre m a) s k = bM T a (m.app s) k:=rfl
theorem aKM (m:xF) (a:aP) (s:St):bM T (.post a m) s k = bM T a s (aBj m k):=by
 unfold bM
 rw [aPG]
 cases ev T a s with
 | none=>rfl
 | some r =>
  obtain ⟨e,s'⟩:=r
  cases e <;> rfl
theorem bE {S X:Type} {step:S->Option (S ⊕ X)} {c:aP} (enc:S->St) (out:X->Ex × St) (hout:∀ x s,out x ≠ (.normal,s))
  (h:∀ s,bM T c (enc s) (fun e s'=>some (e,s')) = cO enc out (step s)) (s:S) :
  bM T (.loop c) (enc s) k = (eJ step s).bind fun x=>k (out x).1 (out x).2:=by
 unfold bM
 rw [aKG enc out hout (fun s=>by
  have:=h s
  unfold bM at this
  rw [← this]
  cases ev T c (enc s) <;> rfl) s]
 cases eJ step s <;> rfl
theorem aQC (ops:List aY) (args:List bO) (dst:Option Nat) (f:Nat) (body:aP) (res:List kT) (id:Nat) (slots:List Nat) (s:St) :
  bM T (.inl ops args dst f body res id slots) s k = uX T ops s fun s1=>(WT args id slots s1).bind fun s2=>bM T body s2 fun ex s3=>match ex with
   | .exit _=>none
   | _=>(mS dst res id slots s3).bind fun s4=>k .normal s4:=by
 unfold bM uX
 rw [aRt]
 cases j5 (call T) ops s with
 | none=>rfl
 | some s1 =>
  simp only [À]
  cases WT args id slots s1 with
  | none=>rfl
  | some s2 =>
   simp only [À]
   cases ev T body s2 with
   | none=>rfl
   | some q =>
    obtain ⟨e,s3⟩:=q
    cases e with
    | normal=>simp only [À]; cases mS dst res id slots s3 <;> rfl
    | exit i=>rfl
    | ret=>simp only [À]; cases mS dst res id slots s3 <;> rfl
theorem aSV (k1:St->Option β) (k:Ex->St->Option β) (s:St):aNk k1 k .normal s = k1 s:=rfl
theorem aRd (k1:St->Option β) (k:Ex->St->Option β) (i:Nat) (s:St):aNk k1 k (.exit i) s = k (.exit i) s:=rfl
theorem aRm (k1:St->Option β) (k:Ex->St->Option β) (s:St):aNk k1 k .ret s = k .ret s:=rfl
theorem aID (id:Nat) (k:Ex->St->Option β) (s:St):T5 id k .normal s = k .normal s:=rfl
theorem aMd (id:Nat) (k:Ex->St->Option β) (i:Nat) (s:St):T5 id k (.exit i) s = if i = id then k .normal s else k (.exit i) s:=rfl
theorem aJ6 (id:Nat) (k:Ex->St->Option β) (s:St):T5 id k .ret s = k .ret s:=rfl
theorem aOY (m:xF) (k:Ex->St->Option β) (s:St):aBj m k .normal s = k .normal (m.app s):=rfl
theorem aO3 (m:xF) (k:Ex->St->Option β) (i:Nat) (s:St):aBj m k (.exit i) s = k (.exit i) s:=rfl
theorem aQI (m:xF) (k:Ex->St->Option β) (s:St):aBj m k .ret s = k .ret s:=rfl
theorem aJU (s:St) (k:St->Option β):uX T [] s k = k s:=rfl
theorem WA (d:Option Nat) (op:fT) (st:Nat) (l:List aY) (s:St) (k:St->Option β) :
  uX T (⟨d,op,none,st⟩ :: l) s k = H3 (cE (call T) st (bN s.get) s.blk op) fun v wr=>uX T l (s.put d v wr) k:=by
 unfold uX H3
 simp only [j5,BG,aY.wants]
 cases cE (call T) st (bN s.get) s.blk op with
 | none=>rfl
 | some r=>rfl
noncomputable def mU (T:wF):List aY->St->List Fp->(St->List Fp->Option β)->Option β
 | [],s,fp,k=>k s fp
 | o :: l,s,fp,k=>match j7 (call T) o s with
  | some (s',p)=>mU T l s' (p :: fp) k
  | none=>none
theorem aMN (l:List aY) (s:St) (fp:List Fp) (k:St->List Fp->Option β):mU T l s fp k = (iP (call T) l s).bind fun r=>k r.1 (r.2.reverse ++ fp):=by
 induction l generalizing s fp with
 | nil=>rfl
 | cons o l ih =>
  simp only [mU,iP]
  cases j7 (call T) o s with
  | none=>rfl
  | some q =>
   obtain ⟨s',p⟩:=q
   simp only [ih]
   cases iP (call T) l s' with
   | none=>rfl
   | some r=>obtain ⟨s'',ps⟩:=r; simp
def aOA (l:List aY) (ps:List (Nat × Nat)) (k:St->Option β) (s:St) (fp:List Fp):Option β:=if OS l fp.reverse ps = true then k s else none
theorem aOW (l:List aY) (ps:List (Nat × Nat)) (s:St) (k:St->Option β):aNy T l ps s k = mU T l s [] (aOA l ps k):=by
 rw [aMN]
 unfold aNy
 simp only [fG]
 cases iP (call T) l s with
 | none=>rfl
 | some r =>
  obtain ⟨s',fp⟩:=r
  simp only [À,aOA,ý,List.reverse_reverse]
  cases h:OS l fp ps <;> simp
theorem TA (d:Option Nat) (op:fT) (st:Nat) (l:List aY) (s:St) (fp:List Fp) (k:St->List Fp->Option β) :
  mU T (⟨d,op,none,st⟩ :: l) s fp k = H3 (cE (call T) st (bN s.get) s.blk op) fun v wr=>mU T l (s.put d v wr) (BA ⟨d,op,none,st⟩ s.get s.blk wr :: fp) k:=by
 unfold H3
 simp only [mU,j7,aY.wants]
 cases cE (call T) st (bN s.get) s.blk op with
 | none=>rfl
 | some r=>rfl
theorem FB (fr:List (Nat × V)) (bl:List (Nat × Option aO)) (t:Nat):St.get ⟨fr,bl⟩ t = lk fr .any t:=rfl
theorem aDZ (fr:List (Nat × V)) (bl:List (Nat × Option aO)) (i:Nat):St.blk ⟨fr,bl⟩ i = lk bl none i:=rfl
theorem aTi (live keep:List Nat) (p:Nat × Nat × Nat × Nat) (l:List (Nat × Nat × Nat × Nat)) (c:List (Nat × Nat × Nat × Nat × Nat)) (ft:List Nat) (fc:List (Nat × Nat)) (s:St):xF.app ⟨live,keep,p :: l,c,ft,fc⟩ s = xF.app ⟨live,keep,l,c,ft,fc⟩ (mkT p s):=rfl
theorem aTZ (live keep:List Nat) (p:Nat × Nat × Nat × Nat × Nat) (c:List (Nat × Nat × Nat × Nat × Nat)) (ft:List Nat) (fc:List (Nat × Nat)) (s:St):xF.app ⟨live,keep,[],p :: c,ft,fc⟩ s = xF.app ⟨live,keep,[],c,ft,fc⟩ (mkC p s):=rfl
theorem aRl (live keep:List Nat) (p:Nat) (ft:List Nat) (fc:List (Nat × Nat)) (s:St):xF.app ⟨live,keep,[],[],p :: ft,fc⟩ s = xF.app ⟨live,keep,[],[],ft,fc⟩ (O9 p s):=rfl
theorem aS4 (live keep:List Nat) (p:Nat × Nat) (fc:List (Nat × Nat)) (s:St):xF.app ⟨live,keep,[],[],[],p :: fc⟩ s = xF.app ⟨live,keep,[],[],[],fc⟩ (frC p s):=rfl
end
end Vm
end
section
namespace Vm
open Go.RowKit
def at? {α:Type} (xs:List α) (n:Int):Option α:=if 0 <= n then xs[n.toNat]? else none
def cI (n:Int):List D:=[.int .i64 n]
def cB (b:Bool):List D:=[.bool b]
def cS (s:ByteArray):List D:=[.str s]
def cK (k:IntKind) (n:Int):List D:=[.int k n]
def cM {α:Type} (c:α->List D) (xs:List α):List (List D):=xs.map c
def cL {α:Type} (c:α->List D) (xs:List α):List D:=[.sl (cM c xs)]
def iI {α:Type} (xs:List α) (l h:Int):List α:=(xs.take h.toNat).drop l.toNat
def jL (n:Nat) (l h:Int):Prop:=0 <= l ∧ l <= h ∧ h.toNat <= n
instance (n:Nat) (l h:Int):Decidable (jL n l h):=inferInstanceAs (Decidable (_ ∧ _ ∧ _))
def sAt (s:ByteArray) (n:Int):Option Int:=if 0 <= n then s[n.toNat]?.map fun b=>(b.toNat:Int) else none
section
variable {β:Type} {T:wF} {site:Nat} {ev:bO->V} {bl:Nat->Option aO} (k:V->List (Nat × Option aO)->Option β)
def XL (size:Nat) (x i:V) (bl:Nat->Option aO):LA:=match i with
  | .d (.int _ n)=>match x with
   | .own id ver=>match bl id with
    | some (.rows v e sz rows)=>if ver = v ∧ sz = size ∧ 0 <= n ∧ n.toNat < rows.length then some (.orow id ver n.toNat 0,[]) else none
    | some (.froz v rows)=>if ver = v ∧ 0 <= n then match rows[n.toNat]? with
     | some row=>if row.length = size then some (.d (.ptr row 0),[]) else none
     | none=>none
     else none
    | _=>none
   | .d (.sl rows)=>if 0 <= n then match rows[n.toNat]? with
    | some row=>if row.length = size then some (.d (.ptr row 0),[]) else none
    | none=>none
    else none
   | _=>none
  | _=>none
theorem VC (C:Nat->List D->Option D) (size:Nat) (x i:bO):cE C site ev bl (.indexAddr size x i) = XL size (ev x) (ev i) bl:=rfl
theorem aN6 {α:Type} (size:Nat) (c:α->List D) (xs:List α) (kd:IntKind) (n:Int) (bl:Nat->Option aO):H3 (XL size (.d (.sl (cM c xs))) (.d (.int kd n)) bl) k = (at? xs n).bind fun x=>if (c x).length = size then k (.d (.ptr (c x) 0)) [] else none:=by
 simp only [XL,at?,cM]
 by_cases h:0 <= n
 ·rw [Â h,Â h,Ç]
  cases xs[n.toNat]? with
  | none=>rfl
  | some x =>
   simp only [Ù,À]
   by_cases h2:(c x).length = size
   ·rw [Â h2,Â h2]; rfl
   ·rw [Ã h2,Ã h2]; rfl
 ·rw [Ã h,Ã h]; rfl
def aMy (size id ver:Nat) (n:Int) (b:Option aO):LA:=match b with
 | some (.rows v e sz rows)=>if ver = v ∧ sz = size ∧ 0 <= n ∧ n.toNat < rows.length then some (.orow id ver n.toNat 0,[]) else none
 | some (.froz v rows)=>if ver = v ∧ 0 <= n then match rows[n.toNat]? with
  | some row=>if row.length = size then some (.d (.ptr row 0),[]) else none
  | none=>none
  else none
 | _=>none
theorem aGB (size id ver v e sz:Nat) (n:Int) (rows:List (List D)) (k:V->List (Nat × Option aO)->Option β):H3 (aMy size id ver n (some (.rows v e sz rows))) k = if ver = v then (if sz = size then (if 0 <= n ∧ n.toNat < rows.length then k (.orow id ver n.toNat 0) [] else none) else none) else none:=by
 simp only [aMy]
 by_cases h1:ver = v
 ·by_cases h2:sz = size
  ·by_cases h3:0 <= n ∧ n.toNat < rows.length
   ·rw [Â ⟨h1,h2,h3⟩,Â h1,Â h2,Â h3]; rfl
   ·rw [Ã (fun q=>h3 q.2.2),Â h1,Â h2,Ã h3]; rfl
  ·rw [Ã (fun q=>h2 q.2.1),Â h1,Ã h2]; rfl
 ·rw [Ã (fun q=>h1 q.1),Ã h1]; rfl
theorem aGG {α:Type} (size id ver v:Nat) (n:Int) (c:α->List D) (xs:List α) (k:V->List (Nat × Option aO)->Option β):H3 (aMy size id ver n (some (.froz v (cM c xs)))) k = if ver = v then ((at? xs n).bind fun x=>if (c x).length = size then k (.d (.ptr (c x) 0)) [] else none) else none:=by
 simp only [aMy,at?,cM]
 by_cases h1:ver = v
 ·by_cases h:0 <= n
  ·rw [Â ⟨h1,h⟩,Â h1,Â h,Ç]
   cases xs[n.toNat]? with
   | none=>rfl
   | some x =>
    simp only [Ù,À]
    by_cases h2:(c x).length = size
    ·rw [Â h2,Â h2]; rfl
    ·rw [Ã h2,Ã h2]; rfl
  ·rw [Ã (fun q=>h q.2),Â h1,Ã h]; rfl
 ·rw [Ã (fun q=>h1 q.1),Ã h1]; rfl
def Z3 (size:Nat) (isAgg:Bool) (off:Nat) (row:List D):LA :=
 if isAgg then (if off + size <= row.length then some (.agg (((row.drop off).take size).map .d),[]) else none) else row[off]?.map fun v=>(.d v,[])
def aEy (size:Nat) (isAgg:Bool) (off:Nat) (b:Option aO):LA:=match b with
 | some (.box cs) =>
  if isAgg then (if off + size <= cs.length then some (.agg ((cs.drop off).take size),[]) else none)
  else cs[off]?.map fun v=>(v,[])
 | some (.fbox row)=>Z3 size isAgg off row
 | _=>none
def aLy (size:Nat) (isAgg:Bool) (ver i off:Nat) (b:Option aO):LA:=match b with
 | some (.rows v e sz rows)=>if ver = v then match rows[i]? with
  | some row=>Z3 size isAgg off row
  | none=>none
  else none
 | _=>none
def NS (size:Nat) (isAgg:Bool) (x:V) (bl:Nat->Option aO):LA:=match x with
 | .ptr id off=>aEy size isAgg off (bl id)
 | .d (.ptr row off)=>Z3 size isAgg off row
 | .orow id ver i off=>aLy size isAgg ver i off (bl id)
 | _=>none
theorem ID (C:Nat->List D->Option D) (size:Nat) (isAgg:Bool) (x:bO):cE C site ev bl (.load size isAgg x) = NS size isAgg (ev x) bl:=rfl
theorem aHH (size:Nat) (isAgg:Bool) (id off:Nat) (bl:Nat->Option aO):NS size isAgg (.ptr id off) bl = aEy size isAgg off (bl id):=rfl
theorem aOg (size:Nat) (isAgg:Bool) (id ver i off:Nat) (bl:Nat->Option aO):NS size isAgg (.orow id ver i off) bl = aLy size isAgg ver i off (bl id):=rfl
theorem aQc (size off:Nat) (cs:List V):aEy size true off (some (.box cs)) = if off + size <= cs.length then some (.agg ((cs.drop off).take size),[]) else none:=rfl
theorem aQV (size off:Nat) (cs:List V):aEy size false off (some (.box cs)) = cs[off]?.map fun v=>(v,[]):=rfl
def UM (size ver i off id:Nat) (fz:List (Nat × Option aO)) (ds:Option (List D)) (b:Option aO):LA:=match b with
 | some (.rows w e sz rows)=>if ver = w then match rows[i]?,ds with
  | some row,some ds=>if ds.length = size ∧ off + size <= row.length ∧ DO id fz = true then some (.any,(id,some (.rows w e sz (rows.set i (iT row off ds)))) :: fz) else none
  | _,_=>none
  else none
 | _=>none
def aD1 (size off id:Nat) (v:V) (b:Option aO):LA:=match b with
 | some (.box cs)=>if v.cells.length = size ∧ off + size <= cs.length ∧ v.known = true then some (.any,[(id,some (.box (iT cs off v.cells)))]) else none
 | _=>none
def aCJ (size:Nat) (x v:V) (bl:Nat->Option aO):LA:=match x with
 | .ptr id off=>aD1 size off id v (bl id)
 | .orow id ver i off=>UM size ver i off id (yG bl v) (aT (iQ bl) v.cells) (bl id)
 | _=>none
theorem aHQ (C:Nat->List D->Option D) (size:Nat) (x v:bO):cE C site ev bl (.store size x v) = aCJ size (ev x) (ev v) bl:=rfl
theorem aMZ (size id off:Nat) (v:V) (bl:Nat->Option aO):aCJ size (.ptr id off) v bl = aD1 size off id v (bl id):=rfl
theorem aJd (size id ver i off:Nat) (v:V) (bl:Nat->Option aO):aCJ size (.orow id ver i off) v bl = UM size ver i off id (yG bl v) (aT (iQ bl) v.cells) (bl id):=rfl
theorem aBW (size off id:Nat) (v:V) (cs:List V):aD1 size off id v (some (.box cs)) = if v.cells.length = size ∧ off + size <= cs.length ∧ v.known = true then some (.any,[(id,some (.box (iT cs off v.cells)))]) else none:=rfl
theorem aIk (C:Nat->List D->Option D) (size:Nat) (x:bO) (lo hi:Option bO):cE C site ev bl (.slice size x lo hi) = zR bl size (ev x) (lo.map ev) (hi.map ev):=rfl
def aMl (ver:Nat) (b:Option aO):Option (List (List D)):=match b with
 | some (.rows v _ _ rows)=>if ver = v then some rows else none
 | some (.froz v rows)=>if ver = v then some rows else none
 | _=>none
def E6 (v:Option V) (d:Int):Option Int:=match v with
 | none=>some d
 | some (.d (.int _ h))=>some h
 | _=>none
theorem aFs {α:Type} (size:Nat) (c:α->List D) (xs:List α) (lo hi:Option V) (l h:Int) (hl:E6 lo 0 = some l) (hh:E6 hi (xs.length:Int) = some h) (hs:sized size (cM c xs) = true) (bl:Nat->Option aO):H3 (zR bl size (.d (.sl (cM c xs))) lo hi) k = if jL xs.length l h then k (.d (.sl (cM c (iI xs l h)))) [] else none:=by
 have e0:∀ lo' hi',zR bl size (.d (.sl (cM c xs))) lo' hi' = (match E6 hi' ((cM c xs).length:Int),E6 lo' 0 with
   | some h,some l=>if 0 <= l ∧ l <= h ∧ h.toNat <= (cM c xs).length ∧ sized size (cM c xs) = true then some (.d (.sl (((cM c xs).take h.toNat).drop l.toNat)),[]) else none
   | _,_=>none):=fun lo' hi'=>rfl
 rw [e0,show ((cM c xs).length:Int) = (xs.length:Int) by simp [cM],hl,hh]
 simp only [show (cM c xs).length = xs.length by simp [cM]]
 by_cases q:jL xs.length l h
 ·rw [Â q,Â ⟨q.1,q.2.1,q.2.2,hs⟩]
  simp only [aF3,cM,iI,List.map_drop,Ğ]
 ·rw [Ã q,Ã (fun w=>q ⟨w.1,w.2.1,w.2.2.1⟩)]; rfl
def IK (x i:V):LA:=match x,i with
  | .d (.str s),.d (.int _ n)=>if 0 <= n then match s[n.toNat]? with
   | some b=>some (.d (.int .u8 b.toNat),[])
   | none=>none
   else none
  | _,_=>none
theorem aHY (C:Nat->List D->Option D) (x i:bO):cE C site ev bl (.index x i) = IK (ev x) (ev i):=rfl
theorem aLw (s:ByteArray) (kd:IntKind) (n:Int):H3 (IK (.d (.str s)) (.d (.int kd n))) k = (sAt s n).bind fun b=>k (.d (.int .u8 b)) []:=by
 simp only [IK,sAt]
 split
 ·cases s[n.toNat]? <;> rfl
 ·rfl
end
section
variable {S X:Type} {enc:S->St} {out:X->Ex × St}
theorem aFB (c:Prop) [Decidable c] (a b:Option (S ⊕ X)):cO enc out (if c then a else b) = if c then cO enc out a else cO enc out b:=by split <;> rfl
theorem aCb {α:Type} (o:Option α) (f:α->Option (S ⊕ X)):cO enc out (o.bind f) = o.bind fun x=>cO enc out (f x):=by cases o <;> rfl
theorem aDw:cO enc out none = none:=rfl
theorem aIC (s:S):cO enc out (some (.inl s)) = some (.normal,enc s):=rfl
theorem aFU (x:X):cO enc out (some (.inr x)) = some (out x):=rfl
end
theorem gM {α:Type} (size:Nat) (c:α->List D) (hc:∀ x,(c x).length = size) (xs:List α):sized size (cM c xs) = true:=by
 simp [sized,cM,hc]
theorem aL9 (xs:List Int):sized 1 (cM cI xs) = true:=gM _ _ (fun x=>by rfl) xs
theorem aKC (k:IntKind) (xs:List Int):sized 1 (cM (cK k) xs) = true:=gM _ _ (fun x=>by rfl) xs
theorem aAc (xs:List Bool):sized 1 (cM cB xs) = true:=gM _ _ (fun x=>by rfl) xs
theorem aJ0 (xs:List ByteArray):sized 1 (cM cS xs) = true:=gM _ _ (fun x=>by rfl) xs
theorem aIU {α:Type} (c:α->List D) (xs:List (List α)):sized 1 (cM (cL c) xs) = true:=gM _ _ (fun x=>by rfl) xs
theorem yE {α:Type} (c:α->List D) (xs:List α):(cM c xs).length = xs.length:=by simp [cM]
theorem aFR {α:Type} (c:α->List D) (xs ys:List α):cM c xs ++ cM c ys = cM c (xs ++ ys):=by simp [cM]
theorem aRM {α:Type} (c:α->List D) (xs:List α) (i:Nat) (x:α):cM c (xs.set i x) = (cM c xs).set i (c x):=by simp [cM,List.map_set]
theorem YD {α:Type} (c:α->List D) (n:Nat) (x:α):cM c (List.replicate n x) = List.replicate n (c x):=by simp [cM]
theorem aJV {α γ:Type} (c:Prop) [Decidable c] (a b:Option α) (f:α->Option γ):(if c then a else b).bind f = if c then a.bind f else b.bind f:=by split <;> rfl
theorem aPu {α γ:Type} (c:Prop) [Decidable c] (a b:Option α) (f:α->γ):(if c then a else b).map f = if c then a.map f else b.map f:=by split <;> rfl
theorem bind_map {α γ δ:Type} (o:Option α) (f:α->Option γ) (g:γ->δ):(o.bind f).map g = o.bind fun x=>(f x).map g:=by cases o <;> rfl
theorem aFD {α γ:Type} (f:α->Option γ):(none:Option α).bind f = none:=rfl
theorem aFX {α γ δ ε:Type} (f:α->Option δ) (g:γ->Option δ) (x:α ⊕ γ) (h:δ->Option ε):(Sum.elim f g x).bind h = Sum.elim (fun y=>(f y).bind h) (fun y=>(g y).bind h) x:=by cases x <;> rfl
theorem aIJ {α γ δ ε:Type} (f:α->Option δ) (g:γ->Option δ) (x:α ⊕ γ) (h:δ->ε):(Sum.elim f g x).map h = Sum.elim (fun y=>(f y).map h) (fun y=>(g y).map h) x:=by cases x <;> rfl
def gIf {α:Type} (b:Bool) (x y:α):α:=if b = true then x else y
theorem aK5 {α:Type} (b:Bool) (x y:α):gIf b x y = if b = true then x else y:=rfl
theorem aDq {S X α γ:Type} {enc:S->St} {out:X->Ex × St} (f:α->Option (S ⊕ X)) (g:γ->Option (S ⊕ X)) (x:α ⊕ γ):cO enc out (Sum.elim f g x) = Sum.elim (fun y=>cO enc out (f y)) (fun y=>cO enc out (g y)) x:=by cases x <;> rfl
def aUE (sf:bY):Ex->St->Option D
 | .normal,s=>GS sf s
 | .ret,s=>GS sf s
 | .exit _,_=>none
theorem aMu {T:wF} {f:Nat} {sf:bY} (hf:T f = some (.code sf)) (ds:List D) (hl:ds.length = sf.np) (hlt:kG 0 ds = none):Vm.call T f ds = bM T sf.body ⟨mZ 0 ds,[]⟩ (aUE sf):=by
 rw [aO9 hf ds hl hlt]
 unfold bM
 cases Vm.ev T sf.body ⟨mZ 0 ds,[]⟩ with
 | none=>rfl
 | some q =>
  obtain ⟨e,s⟩:=q
  cases e <;> rfl
theorem aV {α β:Type} (o:Option α) {f g:α->Option β} (h:∀ x,f x = g x):o.bind f = o.bind g:=by rw [funext h]
end Vm
end
section
namespace Vm
open Go.RowKit
section
variable {β:Type}
def kW (fr:List (Nat × V)) (t:Nat) (k:V->Option β):Option β:=k (lk fr .any t)
def bL (bl:List (Nat × Option aO)) (i:Nat) (k:Option aO->Option β):Option β:=k (lk bl none i)
def bR (fr:List (Nat × V)) (o:bO) (k:V->Option β):Option β:=k (bN (lk fr .any) o)
theorem aLu (t:Nat) (v:V) (fr:List (Nat × V)) (k:V->Option β):kW ((t,v) :: fr) t k = k v:=by simp [kW,lk]
theorem aHF (a t:Nat) (v:V) (fr:List (Nat × V)) (k:V->Option β) (h:(t == a) = false):kW ((a,v) :: fr) t k = kW fr t k:=by
 have:¬ t = a:=by simpa using h
 simp [kW,lk,this]
theorem aKg (t:Nat) (k:V->Option β):kW [] t k = k .any:=rfl
theorem aKo (t:Nat) (v:Option aO) (fr:List (Nat × Option aO)) (k:Option aO->Option β):bL ((t,v) :: fr) t k = k v:=by simp [bL,lk]
theorem aGh (a t:Nat) (v:Option aO) (fr:List (Nat × Option aO)) (k:Option aO->Option β) (h:(t == a) = false):bL ((a,v) :: fr) t k = bL fr t k:=by
 have:¬ t = a:=by simpa using h
 simp [bL,lk,this]
theorem aLd (t:Nat) (k:Option aO->Option β):bL [] t k = k none:=rfl
theorem aQQ (bl:List (Nat × Option aO)) (t:Nat) (k:Option aO->Option β):bL ([] ++ bl) t k = bL bl t k:=rfl
theorem aOp (p:Nat × Option aO) (w bl:List (Nat × Option aO)) (t:Nat) (k:Option aO->Option β):bL ((p :: w) ++ bl) t k = bL (p :: (w ++ bl)) t k:=rfl
theorem aRu (fr:List (Nat × V)) (t:Nat) (k:V->Option β):bR fr (.t t) k = kW fr t k:=rfl
theorem aSH (fr:List (Nat × V)) (v:V) (k:V->Option β):bR fr (.c v) k = k v:=rfl
def aE (ds:List D):List V:=ds.map .d
def b9 (ds:List D):V:=.agg (aE ds)
noncomputable def qF (T:wF) (d:Nat) (op:fT) (fr:List (Nat × V)) (bl:List (Nat × Option aO)) (k:V->Option β) (kw:V->List (Nat × Option aO)->Option β):Option β :=
 match cE (call T) d (bN (lk fr .any)) (lk bl none) op with
 | none=>none
 | some (v,[])=>k v
 | some (v,p :: wr)=>kw v (p :: wr)
theorem aHd {T:wF} (d st:Nat) (op:fT) (l:List aY) (fr:List (Nat × V)) (bl:List (Nat × Option aO)) (k:St->Option β) :
  uX T (⟨some d,op,none,st⟩ :: l) ⟨fr,bl⟩ k = qF T st op fr bl (fun v=>uX T l ⟨(d,v) :: fr,bl⟩ k) (fun v wr=>uX T l ⟨(d,v) :: fr,wr ++ bl⟩ k):=by
 rw [WA]
 unfold qF H3
 show (match cE (call T) st (bN (lk fr .any)) (lk bl none) op with | some (v,wr)=>_ | none=>none) = _
 cases cE (call T) st (bN (lk fr .any)) (lk bl none) op with
 | none=>rfl
 | some r=>obtain ⟨v,wr⟩:=r; cases wr <;> rfl
theorem aEq {T:wF} (st:Nat) (op:fT) (l:List aY) (fr:List (Nat × V)) (bl:List (Nat × Option aO)) (k:St->Option β) :
  uX T (⟨none,op,none,st⟩ :: l) ⟨fr,bl⟩ k = qF T st op fr bl (fun _=>uX T l ⟨fr,bl⟩ k) (fun _ wr=>uX T l ⟨fr,wr ++ bl⟩ k):=by
 rw [WA]
 unfold qF H3
 show (match cE (call T) st (bN (lk fr .any)) (lk bl none) op with | some (v,wr)=>_ | none=>none) = _
 cases cE (call T) st (bN (lk fr .any)) (lk bl none) op with
 | none=>rfl
 | some r=>obtain ⟨v,wr⟩:=r; cases wr <;> rfl
def N5 (t:Nat) (b:Bool) (op:fT):fT:=match op with
 | .pick (.t t') x y=>if t' = t then .move (if b then x else y) else op
 | op=>op
def OY (t:Nat) (b:Bool) (o:aY):aY:=match o.guard with
 | some (t',w)=>if t' = t then (if w = b then ⟨o.dst,N5 t b o.op,none,o.site⟩ else ⟨o.dst,.move (.c (.tup [])),none,o.site⟩) else ⟨o.dst,N5 t b o.op,some (t',w),o.site⟩
 | none=>⟨o.dst,N5 t b o.op,none,o.site⟩
def C3 (t:Nat) (b:Bool):List aY->List aY
 | []=>[]
 | o :: l=>OY t b o :: (if o.dst = some t then l else C3 t b l)
theorem CV {C:Nat->List D->Option D} {site:Nat} {fr:Nat->V} {bl:Nat->Option aO} {t:Nat} {b:Bool} (h:fr t = .d (.bool b)) (op:fT):cE C site (bN fr) bl (N5 t b op) = cE C site (bN fr) bl op:=by
 cases op with
 | pick c x y =>
  cases c with
  | t t' =>
   simp only [N5]
   split
   ·rename_i e
    subst e
    simp only [cE,bN,h]
    cases b <;> rfl
   ·rfl
  | c v=>rfl
 | _=>rfl
theorem aHZ {C:Nat->List D->Option D} {s:St} {t:Nat} {b:Bool} (h:s.get t = .d (.bool b)) (o:aY):BG C (OY t b o) s = BG C o s:=by
 obtain ⟨d,op,g,st⟩:=o
 cases g with
 | some g =>
  obtain ⟨t',w⟩:=g
  simp only [OY]
  split
  ·rename_i e
   subst e
   split
   ·rename_i e
    subst e
    simp only [BG,aY.wants,h,CV h]
    cases w <;> rfl
   ·rename_i e
    simp only [BG,aY.wants,h,cE,bN]
    cases w <;> cases b <;> simp_all [BK]
  ·simp only [BG,aY.wants,CV h]
 | none=>simp only [OY,BG,aY.wants,CV h]
theorem GT {s:St} {d:Option Nat} {v:V} {wr:List (Nat × Option aO)} {t:Nat} (h:¬ d = some t):(s.put d v wr).get t = s.get t:=by
 cases d with
 | none=>rfl
 | some a =>
  show lk ((a,v) :: s.fr) .any t = lk s.fr .any t
  have:¬ t = a:=fun e=>h (by rw [e])
  simp [lk,this]
theorem aGY {C:Nat->List D->Option D} {o:aY} {s s' : St} {t:Nat} (h:¬ o.dst = some t) (e:BG C o s = some s'):s'.get t = s.get t:=by
 unfold BG at e
 split at e
 ·split at e
  ·cases e; exact GT h
  ·cases e
 ·cases e; exact GT h
 ·cases e
theorem PD {C:Nat->List D->Option D} {t:Nat} {b:Bool}:∀ (l:List aY) {s:St} (h:s.get t = .d (.bool b)),j5 C (C3 t b l) s = j5 C l s
 | [],s,h=>rfl
 | o :: l,s,h=>by
  simp only [C3,j5,aHZ h]
  cases e:BG C o s with
  | none=>rfl
  | some s' =>
   simp only
   split
   ·rfl
   ·rename_i hd
    exact PD l (by rw [aGY hd e]; exact h)
noncomputable def M6 (T:wF) (v:V) (t:Nat) (l:List aY) (s:St) (k:St->Option β):Option β:=match v with
 | .d (.bool b)=>if b = true then uX T (C3 t true l) s k else uX T (C3 t false l) s k
 | .tup []=>match l with
  | o :: r=>uX T r (s.put o.dst (.tup []) []) k
  | []=>none
 | _=>none
theorem aD2 {T:wF} (d:Option Nat) (op:fT) (t:Nat) (w:Bool) (st:Nat) (l:List aY) (fr:List (Nat × V)) (bl:List (Nat × Option aO)) (k:St->Option β) :
  uX T (⟨d,op,some (t,w),st⟩ :: l) ⟨fr,bl⟩ k = kW fr t fun v=>M6 T v t (⟨d,op,some (t,w),st⟩ :: l) ⟨fr,bl⟩ k:=by
 show _ = M6 T (lk fr .any t) t _ _ k
 generalize hv:lk fr .any t = v
 have bad:∀ (q:BK v w = .bad),uX T (⟨d,op,some (t,w),st⟩ :: l) ⟨fr,bl⟩ k = none:=by
  intro q
  unfold uX
  simp only [j5,BG,aY.wants]
  rw [show (St.get ⟨fr,bl⟩ t) = v from hv,q]; rfl
 cases v with
 | d x =>
  cases x with
  | bool b =>
   simp only [M6]
   cases b with
   | true=>rw [Â rfl]; unfold uX; rw [PD (t:=t) (b:=true) (s:=⟨fr,bl⟩) _ hv]
   | false=>rw [Ã (by decide)]; unfold uX; rw [PD (t:=t) (b:=false) (s:=⟨fr,bl⟩) _ hv]
  | _=>exact bad rfl
 | tup vs =>
  cases vs with
  | nil =>
   simp only [M6]
   unfold uX
   simp only [j5,BG,aY.wants]
   rw [show (St.get ⟨fr,bl⟩ t) = _ from hv]
   rfl
  | cons x l=>exact bad rfl
 | _=>exact bad rfl
theorem aMA {T:wF} (b:Bool) (t:Nat) (l:List aY) (s:St) (k:St->Option β):M6 T (.d (.bool b)) t l s k = if b = true then uX T (C3 t true l) s k else uX T (C3 t false l) s k:=rfl
theorem aK7 {T:wF} (t d st:Nat) (op:fT) (g:Option (Nat × Bool)) (l:List aY) (fr:List (Nat × V)) (bl:List (Nat × Option aO)) (k:St->Option β):M6 T (.tup []) t (⟨some d,op,g,st⟩ :: l) ⟨fr,bl⟩ k = uX T l ⟨(d,.tup []) :: fr,bl⟩ k:=rfl
theorem aFw {T:wF} (t st:Nat) (op:fT) (g:Option (Nat × Bool)) (l:List aY) (fr:List (Nat × V)) (bl:List (Nat × Option aO)) (k:St->Option β):M6 T (.tup []) t (⟨none,op,g,st⟩ :: l) ⟨fr,bl⟩ k = uX T l ⟨fr,bl⟩ k:=rfl
theorem s6 {T:wF} {l l' : List aY} {s:St} {k:St->Option β} (h:l = l'):uX T l s k = uX T l' s k:=by rw [h]
section
variable {T:wF} {d:Nat} {fr:List (Nat × V)} {bl:List (Nat × Option aO)} {k:V->Option β} {kw:V->List (Nat × Option aO)->Option β}
def GD (r:LA) (k:V->Option β) (kw:V->List (Nat × Option aO)->Option β):Option β:=match r with
 | none=>none
 | some (v,[])=>k v
 | some (v,p :: wr)=>kw v (p :: wr)
theorem TM (o:Option D):GD (LA.v o) k kw = o.bind fun x=>k (.d x):=by cases o <;> rfl
theorem aI8:qF T d .fail fr bl k kw = none:=rfl
theorem aI5 (x:bO):qF T d (.move x) fr bl k kw = bR fr x k:=rfl
theorem aIK (c a b:bO):qF T d (.pick c a b) fr bl k kw = bR fr c fun v=>NR v (bR fr a k) (bR fr b k):=by
 unfold qF bR NR
 simp only [cE]
 generalize bN (lk fr .any) c = v
 cases v with
 | d x=>cases x with
  | bool b=>cases b <;> rfl
  | _=>rfl
 | _=>rfl
theorem aNi (x y:Option β):NR (.d (.bool true)) x y = x:=rfl
theorem aQE (x y:Option β):NR (.d (.bool false)) x y = y:=rfl
def gA (b:Option aO) (x:Option β):Option β:=match b with
 | none=>x
 | some _=>none
theorem aOj (x:Option β):gA none x = x:=rfl
theorem aPR (b:aO) (x:Option β):gA (some b) x = none:=rfl
theorem aFV (z:List V):qF T d (.alloc z) fr bl k kw = bL bl d fun b=>gA b (kw (.ptr d 0) [(d,some (.box z))]):=by
 unfold qF bL gA
 simp only [cE]
 cases lk bl none d <;> rfl
def xJ (v:V) (k:List V->Option β):Option β:=if v.known = true then k v.cells else none
theorem aJ1 (x:D) (k:List V->Option β):xJ (.d x) k = k [.d x]:=rfl
theorem aCA (k:List V->Option β):xJ .nil k = k [.nil]:=rfl
theorem aDX (cs:List V) (k:List V->Option β):xJ (.agg cs) k = k cs:=rfl
theorem aBo (ds:List D) (k:List V->Option β):xJ (b9 ds) k = k (aE ds):=rfl
theorem aDk (i o:Nat) (k:List V->Option β):xJ (.ptr i o) k = k [.ptr i o]:=rfl
theorem aD3 (i o:Nat) (k:List V->Option β):xJ (.own i o) k = k [.own i o]:=rfl
theorem aA9 (i v j o:Nat) (k:List V->Option β):xJ (.orow i v j o) k = k [.orow i v j o]:=rfl
theorem aCY (k:List V->Option β):xJ .any k = none:=rfl
theorem aNI (x:bO):qF T d (.box x) fr bl k kw = bL bl d fun b=>gA b (bR fr x fun v=>xJ v fun cs=>kw (.ptr d 0) [(d,some (.box cs))]):=by
 unfold qF bL gA bR xJ
 simp only [cE]
 cases lk bl none d with
 | none =>
  simp only
  by_cases h:(bN (lk fr .any) x).known = true
  ·rw [Â h,Â h]
  ·rw [Ã h,Ã h]
 | some b=>rfl
def HQ (fr:List (Nat × V)):List bO->(List V->Option β)->Option β
 | [],k=>k []
 | x :: l,k=>bR fr x fun v=>HQ fr l fun vs=>k (v :: vs)
theorem OH (l:List bO) (k:List V->Option β):HQ fr l k = k (l.map (bN (lk fr .any))):=by
 induction l generalizing k with
 | nil=>rfl
 | cons x l ih=>simp only [HQ,bR,ih,á]
theorem aIr (k:List V->Option β):HQ fr [] k = k []:=rfl
theorem aDR (x:bO) (l:List bO) (k:List V->Option β):HQ fr (x :: l) k = bR fr x fun v=>HQ fr l fun vs=>k (v :: vs):=rfl
def L8 (fr:List (Nat × V)):List (Nat × Nat × bO)->(List (Nat × Nat × V)->Option β)->Option β
 | [],k=>k []
 | (o,s,x) :: l,k=>bR fr x fun v=>L8 fr l fun vs=>k ((o,s,v) :: vs)
theorem jR (op:fT):qF T d op fr bl k kw = GD (cE (call T) d (bN (lk fr .any)) (lk bl none) op) k kw:=by
 unfold qF GD
 cases cE (call T) d (bN (lk fr .any)) (lk bl none) op with
 | none=>rfl
 | some r=>obtain ⟨v,wr⟩:=r; cases wr <;> rfl
theorem FK (r:LA):GD r k kw = H3 r fun v wr=>match wr with | []=>k v | p :: w=>kw v (p :: w):=by
 cases r with
 | none=>rfl
 | some r=>obtain ⟨v,wr⟩:=r; cases wr <;> rfl
def EA:List V->Nat->(V->Option β)->Option β
 | [],_,_=>none
 | c :: _,0,k=>k c
 | _ :: cs,n + 1,k=>EA cs n k
theorem OX (cs:List V) (n:Nat) (k:V->Option β):EA cs n k = cs[n]?.bind k:=by
 induction cs generalizing n with
 | nil=>rfl
 | cons c cs ih=>cases n with
  | zero=>rfl
  | succ n=>simp only [EA,ih,é]
theorem aPN (c:V) (cs:List V) (k:V->Option β):EA (c :: cs) 0 k = k c:=rfl
theorem aNH (c:V) (cs:List V) (n:Nat) (k:V->Option β):EA (c :: cs) (n + 1) k = EA cs n k:=rfl
def cA (ds:List D) (n:Nat) (k:D->Option β):Option β:=ds[n]?.bind k
def nZ (ds:List D) (off size:Nat) (k:List D->Option β):Option β:=if off + size <= ds.length then k ((ds.drop off).take size) else none
def yB (cs:List V) (off size:Nat) (k:List V->Option β):Option β:=if off + size <= cs.length then k ((cs.drop off).take size) else none
theorem aEX (ds:List D) (n:Nat) (k:V->Option β):EA (aE ds) n k = cA ds n fun x=>k (.d x):=by
 rw [OX]
 unfold aE cA
 rw [Ç]
 cases ds[n]? <;> rfl
theorem aF2 (cs:List V) (n:Nat) (k:List V->Option β) (h:cs.length = n):yB cs 0 n k = k cs:=by
 subst h
 simp [yB]
theorem aCN (c:V) (cs:List V) (off n:Nat) (k:List V->Option β):yB (c :: cs) (off + 1) n k = yB cs off n k:=by
 unfold yB
 simp only [Ø,List.drop_succ_cons]
 by_cases h:off + n <= cs.length
 ·rw [Â h,Â (by omega)]
 ·rw [Ã h,Ã (by omega)]
theorem aC2 (c:V) (cs:List V) (n:Nat) (k:List V->Option β):yB (c :: cs) 0 (n + 1) k = yB cs 0 n fun l=>k (c :: l):=by
 unfold yB
 simp only [Ø,List.drop_zero,List.take_succ_cons]
 by_cases h:0 + n <= cs.length
 ·rw [Â h,Â (by omega)]
 ·rw [Ã h,Ã (by omega)]
theorem aBP (cs:List V) (k:List V->Option β):yB cs 0 0 k = k []:=by simp [yB]
theorem YQ (ds:List D) (off n:Nat) (k:List V->Option β):yB (aE ds) off n k = nZ ds off n fun l=>k (aE l):=by
 unfold yB nZ aE
 simp only [â,Ğ,List.map_drop]
def GE (size:Nat) (isAgg:Bool) (off:Nat) (b:Option aO) (k:V->Option β):Option β:=match b with
 | some (.box cs)=>if isAgg = true then yB cs off size fun l=>k (.agg l) else EA cs off k
 | some (.fbox row)=>if isAgg = true then nZ row off size fun l=>k (b9 l) else cA row off fun x=>k (.d x)
 | _=>none
def T0 (size:Nat) (isAgg:Bool) (ver i off:Nat) (b:Option aO) (k:V->Option β):Option β:=match b with
 | some (.rows v e sz rows)=>if ver = v then rows[i]?.bind fun row=>(if isAgg = true then nZ row off size fun l=>k (b9 l) else cA row off fun x=>k (.d x)) else none
 | _=>none
def BQ (size:Nat) (isAgg:Bool) (x:V) (bl:List (Nat × Option aO)) (k:V->Option β):Option β:=match x with
 | .ptr id off=>bL bl id fun b=>GE size isAgg off b k
 | .d (.ptr row off)=>if isAgg = true then nZ row off size fun l=>k (b9 l) else cA row off fun x=>k (.d x)
 | .orow id ver i off=>bL bl id fun b=>T0 size isAgg ver i off b k
 | _=>none
theorem ZN (size:Nat) (isAgg:Bool) (x:bO):qF T d (.load size isAgg x) fr bl k kw = bR fr x fun v=>BQ size isAgg v bl k:=by
 rw [jR,ID]
 unfold bR
 generalize bN (lk fr .any) x = v
 have hD:∀ row off,GD (Z3 size isAgg off row) k kw = if isAgg = true then nZ row off size fun l=>k (b9 l) else cA row off fun x=>k (.d x):=by
  intro row off
  unfold Z3
  cases isAgg with
  | true=>simp only [Ë,nZ]; split <;> rfl
  | false=>simp only [Æ,È,cA]; cases row[off]? <;> rfl
 cases v with
 | ptr id off =>
  rw [aHH]
  simp only [BQ,bL]
  generalize lk bl none id = b
  cases b with
  | none=>rfl
  | some b=>cases b with
   | box cs =>
    cases isAgg with
    | true=>simp only [aQc,GE,Ë,yB]; split <;> rfl
    | false=>simp only [aQV,GE,Æ,È,OX]; cases cs[off]? <;> rfl
   | fbox row=>exact hD row off
   | _=>rfl
 | d x=>cases x with
  | ptr row off=>exact hD row off
  | _=>rfl
 | orow id ver i off =>
  rw [aOg]
  simp only [BQ,bL]
  generalize lk bl none id = b
  cases b with
  | none=>rfl
  | some b=>cases b with
   | rows v e sz rows =>
    simp only [aLy,T0]
    split
    ·cases rows[i]? with
     | none=>rfl
     | some row=>exact hD row off
    ·rfl
   | _=>rfl
 | _=>rfl
theorem aH6 (size:Nat) (isAgg:Bool) (id off:Nat):BQ size isAgg (.ptr id off) bl k = bL bl id fun b=>GE size isAgg off b k:=rfl
theorem aKE (size:Nat) (row:List D) (off:Nat):BQ size true (.d (.ptr row off)) bl k = nZ row off size fun l=>k (b9 l):=rfl
theorem aLL (size:Nat) (row:List D) (off:Nat):BQ size false (.d (.ptr row off)) bl k = cA row off fun x=>k (.d x):=rfl
theorem aPq (size:Nat) (isAgg:Bool) (id ver i off:Nat):BQ size isAgg (.orow id ver i off) bl k = bL bl id fun b=>T0 size isAgg ver i off b k:=rfl
theorem aGw (size off:Nat) (row:List D):GE size true off (some (.fbox row)) k = nZ row off size fun l=>k (b9 l):=rfl
theorem aGz (size off:Nat) (row:List D):GE size false off (some (.fbox row)) k = cA row off fun x=>k (.d x):=rfl
theorem aMo (size off:Nat) (cs:List V):GE size false off (some (.box cs)) k = EA cs off k:=rfl
theorem aMt (size off:Nat) (c:V) (cs:List V):GE size true off (some (.box (c :: cs))) k = yB (c :: cs) off size fun l=>k (.agg l):=rfl
theorem aKN (size off:Nat) (ds:List D):GE size true off (some (.box (aE ds))) k = nZ ds off size fun l=>k (b9 l):=by
 show yB (aE ds) off size (fun l=>k (.agg l)) = _
 rw [YQ]; rfl
theorem aAB {α:Type} (size:Nat) (isAgg:Bool) (v i off e sz:Nat) (c:α->List D) (xs:List α):T0 size isAgg v i off (some (.rows v e sz (cM c xs))) k = xs[i]?.bind fun x=>BQ size isAgg (.d (.ptr (c x) off)) [] k:=by
 simp only [T0,Ë,cM,Ç]
 cases xs[i]? <;> rfl
def CE:List V->Nat->V->(List V->Option β)->Option β
 | [],_,_,_=>none
 | _ :: cs,0,v,k=>k (v :: cs)
 | c :: cs,n + 1,v,k=>CE cs n v fun l=>k (c :: l)
theorem ZF (cs:List V) (n:Nat) (v:V) (k:List V->Option β):CE cs n v k = if n + 1 <= cs.length then k (iT cs n [v]) else none:=by
 induction cs generalizing n k with
 | nil=>rfl
 | cons c cs ih=>cases n with
  | zero=>rw [Â (by simp)]; cases cs <;> rfl
  | succ n =>
   simp only [CE,ih,iT,Ø]
   by_cases h:n + 1 <= cs.length
   ·rw [Â h,Â (by omega)]
   ·rw [Ã h,Ã (by omega)]
theorem aNx (c:V) (cs:List V) (v:V) (k:List V->Option β):CE (c :: cs) 0 v k = k (v :: cs):=rfl
theorem aN8 (c:V) (cs:List V) (n:Nat) (v:V) (k:List V->Option β):CE (c :: cs) (n + 1) v k = CE cs n v fun l=>k (c :: l):=rfl
def dL (cs:List V) (off:Nat) (ws:List V) (k:List V->Option β):Option β:=if off + ws.length <= cs.length then k (iT cs off ws) else none
theorem W3 {α:Type} (l:List α) (n:Nat):iT l n [] = l:=by cases l <;> rfl
theorem aBr (c:V) (cs:List V) (off:Nat) (ws:List V) (k:List V->Option β) (hw:ws ≠ []):dL (c :: cs) (off + 1) ws k = dL cs off ws fun l=>k (c :: l):=by
 unfold dL
 cases ws with
 | nil=>exact absurd rfl hw
 | cons w ws =>
  simp only [Ø,iT]
  by_cases h:off + (ws.length + 1) <= cs.length
  ·rw [Â h,Â (by omega)]
  ·rw [Ã h,Ã (by omega)]
theorem aEj (c:V) (cs:List V) (w:V) (ws:List V) (k:List V->Option β):dL (c :: cs) 0 (w :: ws) k = dL cs 0 ws fun l=>k (w :: l):=by
 unfold dL
 simp only [Ø,iT]
 by_cases h:0 + ws.length <= cs.length
 ·rw [Â h,Â (by omega)]
 ·rw [Ã h,Ã (by omega)]
theorem aCB (cs:List V) (k:List V->Option β):dL cs 0 [] k = k cs:=by simp [dL,W3]
def aG (size off id:Nat) (v:V) (b:Option aO) (kw:V->List (Nat × Option aO)->Option β):Option β:=match b with
 | some (.box cs)=>if v.cells.length = size ∧ off + size <= cs.length ∧ v.known = true then kw .any [(id,some (.box (iT cs off v.cells)))] else none
 | _=>none
def OV (size ver i off id:Nat) (v:V) (bl:List (Nat × Option aO)) (b:Option aO) (kw:V->List (Nat × Option aO)->Option β):Option β:=H3 (UM size ver i off id (yG (lk bl none) v) (aT (iQ (lk bl none)) v.cells) b) kw
def SG (size:Nat) (p v:V) (bl:List (Nat × Option aO)) (kw:V->List (Nat × Option aO)->Option β):Option β:=match p with
 | .ptr id off=>bL bl id fun b=>aG size off id v b kw
 | .orow id ver i off=>bL bl id fun b=>OV size ver i off id v bl b kw
 | _=>none
theorem aF1 (size:Nat) (x v:bO):qF T d (.store size x v) fr bl k kw = bR fr x fun p=>bR fr v fun w=>SG size p w bl kw:=by
 rw [jR,aHQ]
 unfold bR
 generalize bN (lk fr .any) x = p
 generalize bN (lk fr .any) v = w
 cases p with
 | ptr id off =>
  rw [aMZ]
  simp only [SG,bL]
  generalize lk bl none id = b
  cases b with
  | none=>rfl
  | some b=>cases b with
   | box cs =>
    simp only [aBW,aG]
    by_cases h:w.cells.length = size ∧ off + size <= cs.length ∧ w.known = true
    ·rw [Â h,Â h]; rfl
    ·rw [Ã h,Ã h]; rfl
   | _=>rfl
 | orow id ver i off =>
  rw [aJd]
  simp only [SG,bL,OV]
  rw [FK]
  generalize lk bl none id = b
  cases b with
  | none=>rfl
  | some b=>cases b with
   | rows v e sz rows =>
    simp only [UM]
    by_cases h:ver = v
    ·rw [Â h]
     cases rows[i]? with
     | none=>rfl
     | some row =>
      cases aT (iQ (lk bl none)) w.cells with
      | none=>rfl
      | some ds =>
       simp only
       split <;> rfl
    ·rw [Ã h]; rfl
   | _=>rfl
 | _=>rfl
theorem aL1 (size id off:Nat) (v:V):SG size (.ptr id off) v bl kw = bL bl id fun b=>aG size off id v b kw:=rfl
theorem aLA (size id ver i off:Nat) (v:V):SG size (.orow id ver i off) v bl kw = bL bl id fun b=>OV size ver i off id v bl b kw:=rfl
theorem F7 (off id:Nat) (w c:V) (cs:List V) (hw:w.one = true) (hk:w.known = true):aG 1 off id w (some (.box (c :: cs))) kw = CE (c :: cs) off w fun l=>kw .any [(id,some (.box l))]:=by
 have hc:w.cells = [w]:=by cases w <;> first | rfl | cases hw
 rw [ZF]
 simp only [aG,hc,hk]
 by_cases h:off + 1 <= (c :: cs).length
 ·rw [Â h,Â ⟨rfl,h,trivial⟩]
 ·rw [Ã h,Ã (fun q=>h q.2.1)]
theorem aF6 (off id:Nat) (x:D) (c:V) (cs:List V):aG 1 off id (.d x) (some (.box (c :: cs))) kw = CE (c :: cs) off (.d x) fun l=>kw .any [(id,some (.box l))]:=F7 off id _ c cs rfl rfl
theorem aAx (off id:Nat) (c:V) (cs:List V):aG 1 off id .nil (some (.box (c :: cs))) kw = CE (c :: cs) off .nil fun l=>kw .any [(id,some (.box l))]:=F7 off id _ c cs rfl rfl
theorem aAh (off id i v:Nat) (c:V) (cs:List V):aG 1 off id (.own i v) (some (.box (c :: cs))) kw = CE (c :: cs) off (.own i v) fun l=>kw .any [(id,some (.box l))]:=F7 off id _ c cs rfl rfl
theorem aA2 (off id i v:Nat) (c:V) (cs:List V):aG 1 off id (.ptr i v) (some (.box (c :: cs))) kw = CE (c :: cs) off (.ptr i v) fun l=>kw .any [(id,some (.box l))]:=F7 off id _ c cs rfl rfl
def rR (cs:List V) (n:Nat) (x:Option β):Option β:=if cs.length = n then x else none
theorem aQU (x:Option β):rR [] 0 x = x:=rfl
theorem aQs (c:V) (cs:List V) (n:Nat) (x:Option β):rR (c :: cs) (n + 1) x = rR cs n x:=by
 unfold rR
 simp only [Ø]
 by_cases h:cs.length = n
 ·rw [Â h,Â (by omega)]
 ·rw [Ã h,Ã (by omega)]
theorem aAC (size off id:Nat) (ws:List V) (c:V) (cs:List V):aG size off id (.agg ws) (some (.box (c :: cs))) kw = rR ws size (dL (c :: cs) off ws fun l=>kw .any [(id,some (.box l))]):=by
 unfold rR dL
 show (if ws.length = size ∧ off + size <= (c :: cs).length ∧ V.known (.agg ws) = true then kw .any [(id,some (.box (iT (c :: cs) off ws)))] else none) = _
 by_cases h:ws.length = size
 ·subst h
  rw [Â rfl]
  by_cases h:off + ws.length <= (c :: cs).length
  ·rw [Â h,Â ⟨rfl,h,rfl⟩]
  ·rw [Ã h,Ã (fun q=>h q.2.1)]
 ·rw [Ã h,Ã (fun q=>h q.1)]
theorem WE {α:Type}:∀ (l m:List α),l.length = m.length->iT l 0 m = m
 | [],[],_=>rfl
 | _ :: l,x :: m,h=>by
  simp only [iT]
  rw [WE l m (by simpa using h)]
 | [],_ :: _,h=>by simp at h
 | _ :: _,[],h=>by simp at h
theorem c9 (n id:Nat) (ds:List D) (hd:ds.length = n) (cs:List V) (hc:cs.length = n):aG n 0 id (b9 ds) (some (.box cs)) kw = kw .any [(id,some (.box (aE ds)))]:=by
 have e:(aE ds).length = n:=by rw [← hd]; simp [aE]
 show (if (aE ds).length = n ∧ 0 + n <= cs.length ∧ V.known (b9 ds) = true then kw .any [(id,some (.box (iT cs 0 (aE ds))))] else none) = _
 rw [Â ⟨e,by omega,rfl⟩,WE _ _ (by rw [hc,e])]
def aFH (v:V) (bl:List (Nat × Option aO)) (k:V->Option β):Option β:=match v with
 | .ptr id off=>k (.ptr id off)
 | .d (.ptr row off)=>k (.d (.ptr row off))
 | .orow id ver i off=>bL bl id fun b=>match b with
  | some (.rows v _ _ _)=>if ver = v then k (.orow id ver i off) else none
  | _=>none
 | _=>none
theorem XU (x:bO):qF T d (.nilCheck x) fr bl k kw = bR fr x fun v=>aFH v bl k:=by
 unfold qF bR
 simp only [cE]
 generalize bN (lk fr .any) x = v
 cases v with
 | d x=>cases x <;> rfl
 | orow id ver i off =>
  simp only [aFH,bL]
  generalize lk bl none id = b
  cases b with
  | none=>rfl
  | some b=>cases b with
   | rows v e s rows=>simp only; by_cases h:ver = v <;> simp [h]
   | _=>rfl
 | _=>rfl
theorem aSU (id off:Nat):aFH (.ptr id off) bl k = k (.ptr id off):=rfl
theorem aRn (row:List D) (off:Nat):aFH (.d (.ptr row off)) bl k = k (.d (.ptr row off)):=rfl
def VY (id ver i off:Nat) (b:Option aO) (k:V->Option β):Option β:=match b with
 | some (.rows v _ _ _)=>if ver = v then k (.orow id ver i off) else none
 | _=>none
theorem aSl (id ver i off:Nat):aFH (.orow id ver i off) bl k = bL bl id fun b=>VY id ver i off b k:=rfl
theorem aQt (id ver i off e s:Nat) (rows:List (List D)):VY id ver i off (some (.rows ver e s rows)) k = k (.orow id ver i off):=Â rfl
def faK (off:Nat) (v:V) (bl:List (Nat × Option aO)) (k:V->Option β):Option β:=match v with
 | .ptr id o=>k (.ptr id (o + off))
 | .d (.ptr row o)=>k (.d (.ptr row (o + off)))
 | .orow id ver i o=>bL bl id fun b=>VY id ver i (o + off) b k
 | _=>none
theorem U8 (off:Nat) (x:bO):qF T d (.fieldAddr off x) fr bl k kw = bR fr x fun v=>faK off v bl k:=by
 unfold qF bR
 simp only [cE]
 generalize bN (lk fr .any) x = v
 cases v with
 | d x=>cases x <;> rfl
 | orow id ver i o =>
  simp only [faK,bL]
  generalize lk bl none id = b
  cases b with
  | none=>rfl
  | some b=>cases b with
   | rows v e s rows=>simp only [VY]; by_cases h:ver = v <;> simp [h]
   | _=>rfl
 | _=>rfl
theorem aTH (off id o:Nat):faK off (.ptr id o) bl k = k (.ptr id (o + off)):=rfl
theorem aUn (off:Nat) (row:List D) (o:Nat):faK off (.d (.ptr row o)) bl k = k (.d (.ptr row (o + off))):=rfl
theorem aT9 (off id ver i o:Nat):faK off (.orow id ver i o) bl k = bL bl id fun b=>VY id ver i (o + off) b k:=rfl
def oJ (c:Nat) (op:BinOp) (a b:V) (k:V->Option β):Option β:=(B3 c op a b).bind fun x=>k (.d x)
theorem aOq (c:Nat) (op:BinOp) (x y:bO):qF T d (.bin c op x y) fr bl k kw = bR fr x fun a=>bR fr y fun b=>oJ c op a b k:=by
 rw [jR]
 exact TM _
section
variable (kd:IntKind) (x y:Int)
theorem aLJ:oJ 0 .add (.d (.int kd x)) (.d (.int kd y)) k = k (.d (.int kd (IntKind.wrap kd (x + y)))):=by simp [oJ,B3,oF]
theorem aM4:oJ 0 .sub (.d (.int kd x)) (.d (.int kd y)) k = k (.d (.int kd (IntKind.wrap kd (x - y)))):=by simp [oJ,B3,oF]
theorem aKr:oJ 0 .mul (.d (.int kd x)) (.d (.int kd y)) k = k (.d (.int kd (IntKind.wrap kd (x * y)))):=by simp [oJ,B3,oF]
theorem aI3:oJ 0 .quo (.d (.int kd x)) (.d (.int kd y)) k = if y = 0 then none else k (.d (.int kd (IntKind.wrap kd (x.tdiv y)))):=by
 simp only [oJ,B3,oF,Ë]; split <;> rfl
theorem aLp:oJ 0 .rem (.d (.int kd x)) (.d (.int kd y)) k = if y = 0 then none else k (.d (.int kd (x.tmod y))):=by
 simp only [oJ,B3,oF,Ë]; split <;> rfl
theorem aKa:oJ 0 .eql (.d (.int kd x)) (.d (.int kd y)) k = k (.d (.bool (x == y))):=by simp [oJ,B3,oF]
theorem aIE:oJ 0 .neq (.d (.int kd x)) (.d (.int kd y)) k = k (.d (.bool (x != y))):=by simp [oJ,B3,oF]
theorem aKc:oJ 0 .lss (.d (.int kd x)) (.d (.int kd y)) k = k (.d (.bool (decide (x < y)))):=by simp [oJ,B3,oF]
theorem aJe:oJ 0 .leq (.d (.int kd x)) (.d (.int kd y)) k = k (.d (.bool (decide (x <= y)))):=by simp [oJ,B3,oF]
theorem aI1:oJ 0 .gtr (.d (.int kd x)) (.d (.int kd y)) k = k (.d (.bool (decide (x > y)))):=by simp [oJ,B3,oF]
theorem aMh:oJ 0 .geq (.d (.int kd x)) (.d (.int kd y)) k = k (.d (.bool (decide (x ≥ y)))):=by simp [oJ,B3,oF]
theorem aMF:oJ 0 .and (.d (.int kd x)) (.d (.int kd y)) k = k (.d (.int kd (IntKind.wrap kd (BitVec.ofInt (IntKind.bits kd) x &&& BitVec.ofInt (IntKind.bits kd) y).toNat))):=by simp [oJ,B3,oF]
theorem aPW:oJ 0 .or (.d (.int kd x)) (.d (.int kd y)) k = k (.d (.int kd (IntKind.wrap kd (BitVec.ofInt (IntKind.bits kd) x ||| BitVec.ofInt (IntKind.bits kd) y).toNat))):=by simp [oJ,B3,oF]
theorem aJM:oJ 0 .xor (.d (.int kd x)) (.d (.int kd y)) k = k (.d (.int kd (IntKind.wrap kd (BitVec.ofInt (IntKind.bits kd) x ^^^ BitVec.ofInt (IntKind.bits kd) y).toNat))):=by simp [oJ,B3,oF]
theorem aJs {x y:Int} {k:V->Option β}:oJ 0 .shl (.d (.int .i64 x)) (.d (.int .i64 y)) k = if 0 <= y ∧ y.toNat <= 64 then k (.d (.int .i64 (IntKind.wrap .i64 (x * 2 ^ y.toNat)))) else none:=by
 simp only [oJ,B3,oF,Ë,show IntKind.bits .i64 = 64 from rfl]; split <;> rfl
theorem aMM {x y:Int} {k:V->Option β}:oJ 0 .shr (.d (.int .i64 x)) (.d (.int .i64 y)) k = if 0 <= y ∧ y.toNat <= 64 then k (.d (.int .i64 (x.fdiv (2 ^ y.toNat)))) else none:=by
 simp only [oJ,B3,oF,Ë,show IntKind.bits .i64 = 64 from rfl]; split <;> rfl
theorem aDH {x:Int} {k:V->Option β}:oJ 0 .shr (.d (.int .u64 x)) (.d (.int .u64 32)) k = k (.d (.int .u64 (x.fdiv (2 ^ 32)))):=rfl
end
section
variable (x y:ByteArray)
theorem aIn:oJ 0 .eql (.d (.str x)) (.d (.str y)) k = k (.d (.bool (x.toList == y.toList))):=rfl
theorem aF5:oJ 0 .neq (.d (.str x)) (.d (.str y)) k = k (.d (.bool !(x.toList == y.toList))):=rfl
theorem aGg:oJ 0 .lss (.d (.str x)) (.d (.str y)) k = k (.d (.bool (Op.bytesLess x.toList y.toList))):=rfl
theorem aGs:oJ 0 .leq (.d (.str x)) (.d (.str y)) k = k (.d (.bool (Op.bytesLess x.toList y.toList || x.toList == y.toList))):=rfl
theorem aHc:oJ 0 .gtr (.d (.str x)) (.d (.str y)) k = k (.d (.bool !(Op.bytesLess x.toList y.toList || x.toList == y.toList))):=rfl
theorem aFP:oJ 0 .geq (.d (.str x)) (.d (.str y)) k = k (.d (.bool !(Op.bytesLess x.toList y.toList))):=rfl
end
theorem aIa (x y:Bool):oJ 1 .eql (.d (.bool x)) (.d (.bool y)) k = k (.d (.bool (x == y))):=rfl
theorem aHW (x y:Bool):oJ 1 .neq (.d (.bool x)) (.d (.bool y)) k = k (.d (.bool !(x == y))):=rfl
def TJ (o:Option D) (k:V->Option β):Option β:=o.bind fun x=>k (.d x)
theorem s9 {o o' : Option D} {k:V->Option β} (h:o = o'):TJ o k = TJ o' k:=by rw [h]
theorem aIw (x:D):TJ (some x) k = k (.d x):=rfl
theorem aG9:TJ none k = none:=rfl
theorem aPw (ks:List Nat) (neg:Bool) (x y:bO):qF T d (.eqS ks neg x y) fr bl k kw = bR fr x fun a=>bR fr y fun b=>TJ (eqV ks neg a b) k:=by
 rw [jR]
 exact TM _
def dP:List Nat->List V->List V->(Bool->Option β)->Option β:=fun ks xs ys k=>match dT ks xs ys with
 | some b=>k b
 | none=>none
def VD (ks:List Nat) (neg:Bool) (a b:V) (k:V->Option β):Option β:=match a,b with
 | .agg xs,.agg ys=>dP ks xs ys fun b=>k (.d (.bool (if neg then !b else b)))
 | _,_=>none
theorem aNh (ks:List Nat) (neg:Bool) (x y:bO):qF T d (.eqS ks neg x y) fr bl k kw = bR fr x fun a=>bR fr y fun b=>VD ks neg a b k:=by
 rw [aPw]
 unfold bR
 generalize bN (lk fr .any) x = a
 generalize bN (lk fr .any) y = b
 cases a with
 | agg xs=>cases b with
  | agg ys =>
   simp only [eqV,VD,dP,TJ]
   cases dT ks xs ys <;> rfl
  | _=>rfl
 | _=>cases b <;> rfl
section
variable {k:V->Option β}
theorem aJt (ks:List Nat) (xs ys:List V):VD ks true (.agg xs) (.agg ys) k = dP ks xs ys fun b=>k (.d (.bool !b)):=rfl
theorem aKt (ks:List Nat) (xs ys:List V):VD ks false (.agg xs) (.agg ys) k = dP ks xs ys fun b=>k (.d (.bool b)):=rfl
theorem aJW (ks:List Nat) (xs:List D) (ys:List V):VD ks true (b9 xs) (.agg ys) k = dP ks (aE xs) ys fun b=>k (.d (.bool !b)):=rfl
theorem aLW (ks:List Nat) (xs:List D) (ys:List V):VD ks false (b9 xs) (.agg ys) k = dP ks (aE xs) ys fun b=>k (.d (.bool b)):=rfl
theorem aJl (ks:List Nat) (xs:List V) (ys:List D):VD ks true (.agg xs) (b9 ys) k = dP ks xs (aE ys) fun b=>k (.d (.bool !b)):=rfl
theorem aJj (ks:List Nat) (xs:List V) (ys:List D):VD ks false (.agg xs) (b9 ys) k = dP ks xs (aE ys) fun b=>k (.d (.bool b)):=rfl
theorem aLT (ks:List Nat) (xs ys:List D):VD ks true (b9 xs) (b9 ys) k = dP ks (aE xs) (aE ys) fun b=>k (.d (.bool !b)):=rfl
theorem aLl (ks:List Nat) (xs ys:List D):VD ks false (b9 xs) (b9 ys) k = dP ks (aE xs) (aE ys) fun b=>k (.d (.bool b)):=rfl
end
section
variable {k:Bool->Option β}
theorem aQH (kd:IntKind) (x y:Int):dP [0] [.d (.int kd x)] [.d (.int kd y)] k = k (x == y):=by simp [dP,dT,zZ]
theorem aOw (x y:Bool):dP [1] [.d (.bool x)] [.d (.bool y)] k = k (x == y):=by simp [dP,dT,zZ]
theorem aQO (x y:ByteArray):dP [2] [.d (.str x)] [.d (.str y)] k = k (x == y):=by simp [dP,dT,zZ]
theorem aRc (kd:IntKind) (x y:Int) (c:Nat) (ks:List Nat) (xs ys:List V):dP (0 :: c :: ks) (.d (.int kd x) :: xs) (.d (.int kd y) :: ys) k = dP (c :: ks) xs ys fun b=>k ((x == y) && b):=by
 simp only [dP,dT,zZ,Ë]
 cases dT (c :: ks) xs ys <;> rfl
theorem aSs (x y:Bool) (c:Nat) (ks:List Nat) (xs ys:List V):dP (1 :: c :: ks) (.d (.bool x) :: xs) (.d (.bool y) :: ys) k = dP (c :: ks) xs ys fun b=>k ((x == y) && b):=by
 simp only [dP,dT,zZ]
 cases dT (c :: ks) xs ys <;> rfl
theorem aRZ (x y:ByteArray) (c:Nat) (ks:List Nat) (xs ys:List V):dP (2 :: c :: ks) (.d (.str x) :: xs) (.d (.str y) :: ys) k = dP (c :: ks) xs ys fun b=>k ((x == y) && b):=by
 simp only [dP,dT,zZ]
 cases dT (c :: ks) xs ys <;> rfl
end
def aLE (kd:IntKind) (x:Int):List V->(V->Option β)->Option β:=fun l k=>TJ (aBY kd x l) k
def aKV (kd:IntKind) (x:Int):List V->(V->Option β)->Option β:=fun l k=>TJ (aDI kd x l) k
def aQ2 (l:List V) (k:V->Option β):Option β:=TJ (aNW l) k
def aQW (l:List V) (k:V->Option β):Option β:=TJ (aPE l) k
theorem aPL (l:List bO):qF T d (.max l) fr bl k kw = HQ fr l fun vs=>aQ2 vs k:=by
 rw [jR,OH]
 exact TM _
theorem aQl (l:List bO):qF T d (.min l) fr bl k kw = HQ fr l fun vs=>aQW vs k:=by
 rw [jR,OH]
 exact TM _
section
variable {k:V->Option β}
theorem aPp (kd:IntKind) (x:Int) (l:List V):aQ2 (.d (.int kd x) :: l) k = aLE kd x l k:=rfl
theorem aQB (kd:IntKind) (x:Int) (l:List V):aQW (.d (.int kd x) :: l) k = aKV kd x l k:=rfl
theorem aKf (kd:IntKind) (x:Int):aLE kd x [] k = k (.d (.int kd x)):=rfl
theorem aME (kd:IntKind) (x:Int):aKV kd x [] k = k (.d (.int kd x)):=rfl
theorem aGU (kd:IntKind) (x y:Int) (l:List V):aLE kd x (.d (.int kd y) :: l) k = aLE kd (if y > x then y else x) l k:=by simp [aLE,aBY]
theorem aGH (kd:IntKind) (x y:Int) (l:List V):aKV kd x (.d (.int kd y) :: l) k = aKV kd (if y < x then y else x) l k:=by simp [aKV,aDI]
end
def unK (op:UnOp) (v:V) (k:V->Option β):Option β:=TJ (unV op v) k
theorem aRe (op:UnOp) (x:bO):qF T d (.un op x) fr bl k kw = bR fr x fun a=>unK op a k:=by
 rw [jR]
 exact TM _
theorem aPX (b:Bool):unK .not (.d (.bool b)) k = k (.d (.bool !b)):=rfl
theorem aNC (kd:IntKind) (n:Int):unK .neg (.d (.int kd n)) k = k (.d (.int kd (IntKind.wrap kd (0 - n)))):=rfl
def aQY (kd:IntKind) (v:V) (k:V->Option β):Option β:=match v with
 | .d (.int _ n)=>k (.d (.int kd (IntKind.wrap kd n)))
 | _=>none
theorem aIQ (kd:IntKind) (x:bO):qF T d (.conv kd x) fr bl k kw = bR fr x fun a=>aQY kd a k:=by
 unfold qF bR
 simp only [cE]
 generalize bN (lk fr .any) x = v
 cases v with
 | d x=>cases x <;> rfl
 | _=>rfl
theorem aQi (kd kd' : IntKind) (n:Int):aQY kd (.d (.int kd' n)) k = k (.d (.int kd (IntKind.wrap kd n))):=rfl
def rH (s:ByteArray):List Int:=s.data.toList.map fun b=>(b.toNat:Int)
def aDT (v:V) (k:V->Option β):Option β:=match v with
 | .d (.str s)=>k (.d (.sl (cM (cK .u8) (rH s))))
 | _=>none
theorem aHn (x:bO):qF T d (.bytes x) fr bl k kw = bR fr x fun a=>aDT a k:=by
 unfold qF bR
 simp only [cE]
 generalize bN (lk fr .any) x = v
 cases v with
 | d x=>cases x with
  | str s =>
   have:(s.data.toList.map fun b=>[D.int .u8 (b.toNat:Int)]) = cM (cK .u8) (rH s):=by
    simp only [cM,rH,List.map_map]
    rfl
   simp only [aDT,this]
  | _=>rfl
 | _=>rfl
theorem aJP (s:ByteArray):aDT (.d (.str s)) k = k (.d (.sl (cM (cK .u8) (rH s)))):=rfl
def LN (v:V) (bl:List (Nat × Option aO)) (k:List (List D)->Option β):Option β:=(gF (lk bl none) v).bind k
def IF (ver:Nat) (b:Option aO) (k:List (List D)->Option β):Option β:=(aMl ver b).bind k
theorem aI4 (rows:List (List D)) (k:List (List D)->Option β):LN (.d (.sl rows)) bl k = k rows:=rfl
theorem aIz (k:List (List D)->Option β):LN .nil bl k = k []:=rfl
theorem VW (id ver:Nat) (k:List (List D)->Option β):LN (.own id ver) bl k = bL bl id fun b=>IF ver b k:=by
 unfold LN bL IF
 simp only [gF]
 generalize lk bl none id = b
 cases b with
 | none=>rfl
 | some b=>cases b <;> rfl
theorem RN (v e s:Nat) (rows:List (List D)) (k:List (List D)->Option β):IF v (some (.rows v e s rows)) k = k rows:=by simp [IF,aMl]
theorem QV (v:Nat) (rows:List (List D)) (k:List (List D)->Option β):IF v (some (.froz v rows)) k = k rows:=by simp [IF,aMl]
theorem aPZ (x:bO):qF T d (.len x) fr bl k kw = bR fr x fun a=>LN a bl fun rows=>k (.d (.int .i64 rows.length)):=by
 unfold qF bR LN
 simp only [cE]
 cases gF (lk bl none) (bN (lk fr .any) x) <;> rfl
def aQ8 (v:V) (k:V->Option β):Option β:=match v with
 | .d (.str s)=>k (.d (.int .i64 s.size))
 | _=>none
theorem aJh (x:bO):qF T d (.lenS x) fr bl k kw = bR fr x fun a=>aQ8 a k:=by
 unfold qF bR
 simp only [cE]
 generalize bN (lk fr .any) x = v
 cases v with
 | d x=>cases x <;> rfl
 | _=>rfl
theorem aOo (s:ByteArray):aQ8 (.d (.str s)) k = k (.d (.int .i64 s.size)):=rfl
def LR (off size:Nat) (isAgg:Bool) (v:V) (k:V->Option β):Option β:=match v with
 | .agg cs=>if isAgg = true then yB cs off size fun l=>k (.agg l) else EA cs off k
 | _=>none
theorem aHG (off size:Nat) (isAgg:Bool) (x:bO):qF T d (.field off size isAgg x) fr bl k kw = bR fr x fun v=>LR off size isAgg v k:=by
 unfold qF bR
 simp only [cE]
 generalize bN (lk fr .any) x = v
 cases v with
 | agg cs =>
  cases isAgg with
  | true =>
   simp only [LR,yB,Ë]
   by_cases h:off + size <= cs.length
   ·rw [Â h,Â h]
   ·rw [Ã h,Ã h]
  | false=>simp only [LR,OX,Æ,È]; cases cs[off]? <;> rfl
 | _=>rfl
theorem aLf (off size:Nat) (cs:List V):LR off size false (.agg cs) k = EA cs off k:=rfl
theorem aMV (off size:Nat) (cs:List V):LR off size true (.agg cs) k = yB cs off size fun l=>k (.agg l):=rfl
theorem aH5 (off size:Nat) (ds:List D):LR off size false (b9 ds) k = cA ds off fun x=>k (.d x):=by
 show EA (aE ds) off k = _
 rw [aEX]
theorem aGP (off size:Nat) (ds:List D):LR off size true (b9 ds) k = nZ ds off size fun l=>k (b9 l):=by
 show yB (aE ds) off size (fun l=>k (.agg l)) = _
 rw [YQ]; rfl
def kA (ds:List D) (n:Nat) (x:Option β):Option β:=if ds.length = n then x else none
def aK1 (size:Nat) (x i:V) (bl:List (Nat × Option aO)) (k:V->Option β):Option β:=GD (XL size x i (lk bl none)) k fun _ _=>none
theorem aFE {size:Nat} {x i:V} {b:Nat->Option aO} {kw' : V->List (Nat × Option aO)->Option β}:GD (XL size x i b) k kw = GD (XL size x i b) k kw':=by
 have:∀ r,XL size x i b = some r->r.2 = []:=by
  intro r
  unfold XL
  intro e
  repeat' split at e
  all_goals first | cases e; rfl | cases e
 cases h:XL size x i b with
 | none=>rfl
 | some r=>obtain ⟨v,wr⟩:=r; have:=this _ h; dsimp only at this; subst this; rfl
theorem VU (size:Nat) (x i:bO):qF T d (.indexAddr size x i) fr bl k kw = bR fr x fun a=>bR fr i fun b=>aK1 size a b bl k:=by
 rw [jR,VC]
 unfold bR aK1
 exact aFE
theorem aP6 {α:Type} (size:Nat) (c:α->List D) (xs:List α) (kd:IntKind) (n:Int):aK1 size (.d (.sl (cM c xs))) (.d (.int kd n)) bl k = (at? xs n).bind fun x=>kA (c x) size (k (.d (.ptr (c x) 0))):=by
 unfold aK1
 rw [FK,aN6]
 rfl
def Z2 (size id ver:Nat) (n:Int) (b:Option aO) (k:V->Option β):Option β:=GD (aMy size id ver n b) k fun _ _=>none
theorem aIW (size id ver:Nat) (kd:IntKind) (n:Int):aK1 size (.own id ver) (.d (.int kd n)) bl k = bL bl id fun b=>Z2 size id ver n b k:=rfl
theorem aCV {α:Type} (size id v e:Nat) (n:Int) (c:α->List D) (xs:List α):Z2 size id v n (some (.rows v e size (cM c xs))) k = if 0 <= n ∧ n.toNat < xs.length then k (.orow id v n.toNat 0) else none:=by
 unfold Z2
 rw [FK,aGB,Â rfl,Â rfl,yE]
theorem aDN {α:Type} (size id v:Nat) (n:Int) (c:α->List D) (xs:List α):Z2 size id v n (some (.froz v (cM c xs))) k = (at? xs n).bind fun x=>kA (c x) size (k (.d (.ptr (c x) 0))):=by
 unfold Z2
 rw [FK,aGG,Â rfl]
 rfl
def aEB (x i:V) (k:V->Option β):Option β:=H3 (IK x i) fun v _=>k v
theorem aGx (x i:bO):qF T d (.index x i) fr bl k kw = bR fr x fun a=>bR fr i fun b=>aEB a b k:=by
 rw [jR,aHY]
 unfold bR aEB
 generalize bN (lk fr .any) x = a
 generalize bN (lk fr .any) i = b
 have:∀ r,IK a b = some r->r.2 = []:=by
  intro r
  unfold IK
  intro e
  repeat' split at e
  all_goals first | cases e; rfl | cases e
 show _ = H3 (IK a b) fun v _=>k v
 cases h:IK a b with
 | none=>rfl
 | some r=>obtain ⟨v,wr⟩:=r; have:=this _ h; dsimp only at this; subst this; rfl
theorem aQJ (s:ByteArray) (kd:IntKind) (n:Int):aEB (.d (.str s)) (.d (.int kd n)) k = (sAt s n).bind fun b=>k (.d (.int .u8 b)):=by
 unfold aEB
 rw [aLw]
def aBH (fr:List (Nat × V)) (o:Option bO) (k:Option V->Option β):Option β:=match o with
 | none=>k none
 | some x=>bR fr x fun v=>k (some v)
theorem aR7 (k:Option V->Option β):aBH fr none k = k none:=rfl
theorem aRA (x:bO) (k:Option V->Option β):aBH fr (some x) k = bR fr x fun v=>k (some v):=rfl
def HD (size:Nat) (x:V) (lo hi:Option V) (bl:List (Nat × Option aO)) (k:V->Option β) (kw:V->List (Nat × Option aO)->Option β):Option β:=GD (zR (lk bl none) size x lo hi) k kw
theorem aGa (size:Nat) (x:bO) (lo hi:Option bO):qF T d (.slice size x lo hi) fr bl k kw = bR fr x fun a=>aBH fr lo fun l=>aBH fr hi fun h=>HD size a l h bl k kw:=by
 rw [jR,aIk]
 cases lo <;> cases hi <;> rfl
section
variable {α:Type} (size:Nat) (c:α->List D) (xs:List α) (hs:sized size (cM c xs) = true)
include hs
theorem JN {lo hi:Option V} {l h:Int} (hl:E6 lo 0 = some l) (hh:E6 hi (xs.length:Int) = some h):HD size (.d (.sl (cM c xs))) lo hi bl k kw = if jL xs.length l h then k (.d (.sl (cM c (iI xs l h)))) else none:=by
 unfold HD
 rw [FK,aFs _ size c xs lo hi l h hl hh hs]
theorem aGd:HD size (.d (.sl (cM c xs))) none none bl k kw = if jL xs.length 0 (xs.length:Int) then k (.d (.sl (cM c (iI xs 0 (xs.length:Int))))) else none:=JN size c xs hs rfl rfl
theorem aG3 (kd:IntKind) (l:Int):HD size (.d (.sl (cM c xs))) (some (.d (.int kd l))) none bl k kw = if jL xs.length l (xs.length:Int) then k (.d (.sl (cM c (iI xs l (xs.length:Int))))) else none:=JN size c xs hs rfl rfl
theorem aHl (kd:IntKind) (h:Int):HD size (.d (.sl (cM c xs))) none (some (.d (.int kd h))) bl k kw = if jL xs.length 0 h then k (.d (.sl (cM c (iI xs 0 h)))) else none:=JN size c xs hs rfl rfl
theorem aFJ (kd kd' : IntKind) (l h:Int):HD size (.d (.sl (cM c xs))) (some (.d (.int kd l))) (some (.d (.int kd' h))) bl k kw = if jL xs.length l h then k (.d (.sl (cM c (iI xs l h)))) else none:=JN size c xs hs rfl rfl
end
def VF (e size bytes d:Nat) (x y:V) (bl:List (Nat × Option aO)) (kw:V->List (Nat × Option aO)->Option β):Option β:=LN y bl fun new =>
 if sized size new = true then
   match x with
   | .nil=>bL bl d fun b=>gA b (if new.length * bytes <= 140737488355328 then kw (.own d 0) [(d,some (.rows 0 e size new))] else none)
   | .own id ver=>bL bl id fun b=>match b with
    | some (.rows v e' size' rows)=>if ver = v ∧ e' = e ∧ size' = size ∧ (rows.length + new.length) * bytes <= 140737488355328 then kw (.own id (ver + 1)) [(id,some (.rows (ver + 1) e size (rows ++ new)))] else none
    | _=>none
   | _=>none
   else none
theorem aDD (e size bytes:Nat) (x y:bO):qF T d (.append e size bytes x y) fr bl k kw = bR fr x fun a=>bR fr y fun b=>VF e size bytes d a b bl kw:=by
 unfold qF bR VF LN bL gA
 simp only [cE]
 generalize bN (lk fr .any) x = v
 cases gF (lk bl none) (bN (lk fr .any) y) with
 | none=>rfl
 | some new =>
  simp only [À]
  by_cases hs:sized size new = true
  ·rw [Â hs,Â hs]
   cases v with
   | nil =>
    simp only
    cases lk bl none d with
    | none =>
     simp only
     by_cases h:new.length * bytes <= 140737488355328
     ·rw [Â h,Â h]
     ·rw [Ã h,Ã h]
    | some b=>rfl
   | own id ver =>
    simp only
    generalize lk bl none id = b
    cases b with
    | none=>rfl
    | some b=>cases b with
     | rows v e' size' rows =>
      simp only
      by_cases h:ver = v ∧ e' = e ∧ size' = size ∧ (rows.length + new.length) * bytes <= 140737488355328
      ·rw [Â h,Â h]
      ·rw [Ã h,Ã h]
     | _=>rfl
   | _=>rfl
  ·rw [Ã hs,Ã hs]
def T6 {α:Type} (e size bytes d:Nat) (x:V) (c:α->List D) (ys:List α) (bl:List (Nat × Option aO)) (kw:V->List (Nat × Option aO)->Option β):Option β:=match x with
   | .nil=>bL bl d fun b=>gA b (if ys.length * bytes <= 140737488355328 then kw (.own d 0) [(d,some (.rows 0 e size (cM c ys)))] else none)
   | .own id ver=>bL bl id fun b=>match b with
    | some (.rows v e' size' rows)=>if ver = v ∧ e' = e ∧ size' = size ∧ (rows.length + ys.length) * bytes <= 140737488355328 then kw (.own id (ver + 1)) [(id,some (.rows (ver + 1) e size (rows ++ cM c ys)))] else none
    | _=>none
   | _=>none
theorem aF8 {α:Type} (e size bytes d:Nat) (x y:V) (c:α->List D) (ys:List α) (hy:∀ k' : List (List D)->Option β,LN y bl k' = k' (cM c ys)) (hs:sized size (cM c ys) = true):VF e size bytes d x y bl kw = T6 e size bytes d x c ys bl kw:=by
 unfold VF T6
 rw [hy,Â hs,yE]
theorem XI {α:Type} (e size bytes d:Nat) (x:V) (c:α->List D) (ys:List α) (hs:sized size (cM c ys) = true):VF e size bytes d x (.d (.sl (cM c ys))) bl kw = T6 e size bytes d x c ys bl kw:=aF8 e size bytes d x _ c ys (fun _=>rfl) hs
def aBh (e size bytes d:Nat) (x:V) (ver:Nat) (b:Option aO) (bl:List (Nat × Option aO)) (kw:V->List (Nat × Option aO)->Option β):Option β:=IF ver b fun new=>VF e size bytes d x (.d (.sl new)) bl kw
theorem aLo (e size bytes d id ver:Nat) (x:V):VF e size bytes d x (.own id ver) bl kw = bL bl id fun b=>aBh e size bytes d x ver b bl kw:=by
 show VF e size bytes d x (.own id ver) bl kw = IF ver (lk bl none id) fun new=>VF e size bytes d x (.d (.sl new)) bl kw
 unfold VF
 rw [VW]
 rfl
theorem aC6 {α:Type} (e size bytes d v e' s' : Nat) (x:V) (c:α->List D) (ys:List α) (hs:sized size (cM c ys) = true):aBh e size bytes d x v (some (.rows v e' s' (cM c ys))) bl kw = T6 e size bytes d x c ys bl kw:=by
 unfold aBh
 rw [RN,XI _ _ _ _ _ _ _ hs]
theorem aCR {α:Type} (e size bytes d v:Nat) (x:V) (c:α->List D) (ys:List α) (hs:sized size (cM c ys) = true):aBh e size bytes d x v (some (.froz v (cM c ys))) bl kw = T6 e size bytes d x c ys bl kw:=by
 unfold aBh
 rw [QV,XI _ _ _ _ _ _ _ hs]
theorem aHo {α:Type} (e size bytes d:Nat) (c:α->List D) (ys:List α):T6 e size bytes d .nil c ys bl kw = bL bl d fun b=>gA b (if ys.length * bytes <= 140737488355328 then kw (.own d 0) [(d,some (.rows 0 e size (cM c ys)))] else none):=rfl
def aLK {α:Type} (e size bytes id ver:Nat) (c:α->List D) (ys:List α) (b:Option aO) (kw:V->List (Nat × Option aO)->Option β):Option β:=match b with
    | some (.rows v e' size' rows)=>if ver = v ∧ e' = e ∧ size' = size ∧ (rows.length + ys.length) * bytes <= 140737488355328 then kw (.own id (ver + 1)) [(id,some (.rows (ver + 1) e size (rows ++ cM c ys)))] else none
    | _=>none
theorem aH8 {α:Type} (e size bytes d id ver:Nat) (c:α->List D) (ys:List α):T6 e size bytes d (.own id ver) c ys bl kw = bL bl id fun b=>aLK e size bytes id ver c ys b kw:=rfl
theorem aCp {α:Type} (e size bytes id v:Nat) (c:α->List D) (xs ys:List α):aLK e size bytes id v c ys (some (.rows v e size (cM c xs))) kw = if (xs.length + ys.length) * bytes <= 140737488355328 then kw (.own id (v + 1)) [(id,some (.rows (v + 1) e size (cM c (xs ++ ys))))] else none:=by
 simp only [aLK,true_and,yE,aFR]
def VJ (e:Nat) (rows:List (List D)) (k:List (List D)->Option β):Option β:=k rows
def ON (v:V) (bl:List (Nat × Option aO)) (k:List D->List (Nat × Option aO)->Option β):Option β:=match aT (iQ (lk bl none)) v.cells with
 | some row=>k row (yG (lk bl none) v)
 | none=>none
end
section
end
end
end Vm
end
end Go.Proofs.YtoefdnkjcfoccaaDoor
