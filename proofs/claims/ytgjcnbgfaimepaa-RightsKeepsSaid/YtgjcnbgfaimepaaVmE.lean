/- The small machine's code, read from the front: what is left to do stands in a continuation. Equations by which the small machine's code is read (they are named in the proofs that a program prints). The small machine, read from the front by rewriting at the head only: every value is looked up before it is used. -/
import Derived.Test.YtgjcnbgfaimepaaVmD
set_option linter.unusedVariables false
set_option linter.unusedSimpArgs false
namespace Go.Proofs.Ytgjcnbgfaimepaa
namespace Vm
open Go.RowKit
section
variable {β:Type}
noncomputable def bP (T:vS) (c:aH) (s:St) (k:Ex->St->Option β):Option β:=(ev T c s).bind fun p=>k p.1 p.2
noncomputable def sZ (T:vS) (l:List aM) (s:St) (k:St->Option β):Option β:=(gZ (call T) l s).bind k
noncomputable def aL9 (T:vS) (l:List aM) (ps:List (Nat × Nat)) (s:St) (k:St->Option β):Option β:=(eY (call T) l (some ps) s).bind k
def GB (r:JE) (k:V->List (Nat × Option aI)->Option β):Option β:=match r with
 | some (v,wr)=>k v wr
 | none=>none
def MK (v:V) (x y:Option β):Option β:=match v with
 | .d (.bool b)=>if b = true then x else y
 | _=>none
def aNP (k1:St->Option β) (k:Ex->St->Option β):Ex->St->Option β
 | .normal,s=>k1 s
 | e,s=>k e s
def Q7 (id:Nat) (k:Ex->St->Option β):Ex->St->Option β
 | .exit id',s=>if id' = id then k .normal s else k (.exit id') s
 | e,s=>k e s
def XV (m:tL) (k:Ex->St->Option β):Ex->St->Option β
 | .normal,s=>k .normal (m.app s)
 | e,s=>k e s
theorem yL {v v' : V} {x y:Option β} (h:v = v'):MK v x y = MK v' x y:=by rw [h]
theorem aEA (v:V) (wr:List (Nat × Option aI)) (k:V->List (Nat × Option aI)->Option β):GB (some (v,wr)) k = k v wr:=rfl
theorem aBE (b:Bool) (x y:Option β):MK (.d (.bool b)) x y = if b = true then x else y:=rfl
variable {T:vS} {k:Ex->St->Option β}
theorem aHO (s:St):bP T .skip s k = k .normal s:=by unfold bP; rw [aOH]; rfl
theorem aH2 (id:Nat) (s:St):bP T (.exit id) s k = k (.exit id) s:=by unfold bP; rw [aMb]; rfl
theorem aPh (s:St):bP T .ret s k = k .ret s:=by unfold bP; rw [aQC]; rfl
theorem aCO (l:List aM) (s:St):bP T (.region l none) s k = sZ T l s (k .normal):=by
 unfold bP sZ
 rw [S0]
 simp only [eY]
 cases gZ (call T) l s <;> rfl
theorem aHs (l:List aM) (ps:List (Nat × Nat)) (s:St):bP T (.region l (some ps)) s k = aL9 T l ps s (k .normal):=by
 unfold bP aL9
 rw [S0]
 cases eY (call T) l (some ps) s <;> rfl
theorem aOX (a b:aH) (s:St):bP T (.seq a b) s k = bP T a s (aNP (fun s'=>bP T b s' k) k):=by
 unfold bP
 rw [aQx]
 cases ev T a s with
 | none=>rfl
 | some r =>
  obtain ⟨e,s'⟩:=r
  cases e <;> rfl
theorem aKT (c:bD) (a b:aH) (s:St):bP T (.cond c a b) s k = MK (bC s.get c) (bP T a s k) (bP T b s k):=by
 unfold bP
 rw [aLQ]
 generalize bC s.get c = v
 cases v with
 | d x=>cases x with
  | bool b=>cases b <;> rfl
  | _=>rfl
 | _=>rfl
theorem aE6 (id:Nat) (a:aH) (s:St):bP T (.block id a) s k = bP T a s (Q7 id k):=by
 unfold bP
 rw [aK1]
 cases ev T a s with
 | none=>rfl
 | some r =>
  obtain ⟨e,s'⟩:=r
  cases e with
  | normal=>rfl
  | exit i =>
   simp only [Option.bind_some,Q7]
   by_cases h:i = id
   ·simp [h]
   ·simp [h]
  | ret=>rfl
theorem aMp (m:tL) (a:aH) (s:St):bP T (.pre m a) s k = bP T a (m.app s) k:=rfl
theorem aJQ (m:tL) (a:aH) (s:St):bP T (.post a m) s k = bP T a s (XV m k):=by
 unfold bP
 rw [aMQ]
 cases ev T a s with
 | none=>rfl
 | some r =>
  obtain ⟨e,s'⟩:=r
  cases e <;> rfl
theorem aX {S X:Type} {step:S->Option (S ⊕ X)} {c:aH} (enc:S->St) (out:X->Ex × St) (hout:∀ x s,out x ≠ (.normal,s))
  (h:∀ s,bP T c (enc s) (fun e s'=>some (e,s')) = cD enc out (step s)) (s:S) :
  bP T (.loop c) (enc s) k = (dE step s).bind fun x=>k (out x).1 (out x).2:=by
 unfold bP
 rw [aJ6 enc out hout (fun s=>by
  have:=h s
  unfold bP at this
  rw [← this]
  cases ev T c (enc s) <;> rfl) s]
 cases dE step s <;> rfl
theorem aN8 (ops:List aM) (args:List bD) (dst:Option Nat) (f:Nat) (body:aH) (res:List jN) (id:Nat) (slots:List Nat) (s:St) :
  bP T (.inl ops args dst f body res id slots) s k = sZ T ops s fun s1=>(SZ args id slots s1).bind fun s2=>bP T body s2 fun ex s3=>match ex with
   | .exit _=>none
   | _=>(kQ dst res id slots s3).bind fun s4=>k .normal s4:=by
 unfold bP sZ
 rw [aRb]
 cases gZ (call T) ops s with
 | none=>rfl
 | some s1 =>
  simp only [Option.bind_some]
  cases SZ args id slots s1 with
  | none=>rfl
  | some s2 =>
   simp only [Option.bind_some]
   cases ev T body s2 with
   | none=>rfl
   | some q =>
    obtain ⟨e,s3⟩:=q
    cases e with
    | normal=>simp only [Option.bind_some]; cases kQ dst res id slots s3 <;> rfl
    | exit i=>rfl
    | ret=>simp only [Option.bind_some]; cases kQ dst res id slots s3 <;> rfl
theorem aQp (k1:St->Option β) (k:Ex->St->Option β) (s:St):aNP k1 k .normal s = k1 s:=rfl
theorem aQB (k1:St->Option β) (k:Ex->St->Option β) (i:Nat) (s:St):aNP k1 k (.exit i) s = k (.exit i) s:=rfl
theorem aP9 (k1:St->Option β) (k:Ex->St->Option β) (s:St):aNP k1 k .ret s = k .ret s:=rfl
theorem aHT (id:Nat) (k:Ex->St->Option β) (s:St):Q7 id k .normal s = k .normal s:=rfl
theorem aHQ (id:Nat) (k:Ex->St->Option β) (i:Nat) (s:St):Q7 id k (.exit i) s = if i = id then k .normal s else k (.exit i) s:=rfl
theorem aIo (id:Nat) (k:Ex->St->Option β) (s:St):Q7 id k .ret s = k .ret s:=rfl
theorem aOa (m:tL) (k:Ex->St->Option β) (s:St):XV m k .normal s = k .normal (m.app s):=rfl
theorem aNx (m:tL) (k:Ex->St->Option β) (i:Nat) (s:St):XV m k (.exit i) s = k (.exit i) s:=rfl
theorem aOd (m:tL) (k:Ex->St->Option β) (s:St):XV m k .ret s = k .ret s:=rfl
theorem aJV (s:St) (k:St->Option β):sZ T [] s k = k s:=rfl
theorem TJ (d:Option Nat) (op:e8) (st:Nat) (l:List aM) (s:St) (k:St->Option β) :
  sZ T (⟨d,op,none,st⟩ :: l) s k = GB (b8 (call T) st (bC s.get) s.blk op) fun v wr=>sZ T l (s.put d v wr) k:=by
 unfold sZ GB
 simp only [gZ,yE,aM.wants]
 cases b8 (call T) st (bC s.get) s.blk op with
 | none=>rfl
 | some r=>rfl
noncomputable def lN (T:vS):List aM->St->List Fp->(St->List Fp->Option β)->Option β
 | [],s,fp,k=>k s fp
 | o :: l,s,fp,k=>match iU (call T) o s with
  | some (s',p)=>lN T l s' (p :: fp) k
  | none=>none
theorem aI8 (l:List aM) (s:St) (fp:List Fp) (k:St->List Fp->Option β):lN T l s fp k = (iQ (call T) l s).bind fun r=>k r.1 (r.2.reverse ++ fp):=by
 induction l generalizing s fp with
 | nil=>rfl
 | cons o l ih =>
  simp only [lN,iQ]
  cases iU (call T) o s with
  | none=>rfl
  | some q =>
   obtain ⟨s',p⟩:=q
   simp only [ih]
   cases iQ (call T) l s' with
   | none=>rfl
   | some r=>obtain ⟨s'',ps⟩:=r; simp
def aMd (l:List aM) (ps:List (Nat × Nat)) (k:St->Option β) (s:St) (fp:List Fp):Option β:=if MP l fp.reverse ps = true then k s else none
theorem aOU (l:List aM) (ps:List (Nat × Nat)) (s:St) (k:St->Option β):aL9 T l ps s k = lN T l s [] (aMd l ps k):=by
 rw [aI8]
 unfold aL9
 simp only [eY]
 cases iQ (call T) l s with
 | none=>rfl
 | some r =>
  obtain ⟨s',fp⟩:=r
  simp only [Option.bind_some,aMd,List.append_nil,List.reverse_reverse]
  cases h:MP l fp ps <;> simp
theorem RR (d:Option Nat) (op:e8) (st:Nat) (l:List aM) (s:St) (fp:List Fp) (k:St->List Fp->Option β) :
  lN T (⟨d,op,none,st⟩ :: l) s fp k = GB (b8 (call T) st (bC s.get) s.blk op) fun v wr=>lN T l (s.put d v wr) (xP ⟨d,op,none,st⟩ s.get s.blk wr :: fp) k:=by
 unfold GB
 simp only [lN,iU,aM.wants]
 cases b8 (call T) st (bC s.get) s.blk op with
 | none=>rfl
 | some r=>rfl
theorem CM (fr:List (Nat × V)) (bl:List (Nat × Option aI)) (t:Nat):St.get ⟨fr,bl⟩ t = lk fr .any t:=rfl
theorem NS (fr:List (Nat × V)) (bl:List (Nat × Option aI)) (i:Nat):St.blk ⟨fr,bl⟩ i = lk bl none i:=rfl
theorem aSw (live keep:List Nat) (p:Nat × Nat × Nat × Nat) (l:List (Nat × Nat × Nat × Nat)) (c:List (Nat × Nat × Nat × Nat × Nat)) (ft:List Nat) (fc:List (Nat × Nat)) (s:St):tL.app ⟨live,keep,p :: l,c,ft,fc⟩ s = tL.app ⟨live,keep,l,c,ft,fc⟩ (mkT p s):=rfl
theorem aR0 (live keep:List Nat) (p:Nat × Nat × Nat × Nat × Nat) (c:List (Nat × Nat × Nat × Nat × Nat)) (ft:List Nat) (fc:List (Nat × Nat)) (s:St):tL.app ⟨live,keep,[],p :: c,ft,fc⟩ s = tL.app ⟨live,keep,[],c,ft,fc⟩ (mkC p s):=rfl
theorem aQb (live keep:List Nat) (p:Nat) (ft:List Nat) (fc:List (Nat × Nat)) (s:St):tL.app ⟨live,keep,[],[],p :: ft,fc⟩ s = tL.app ⟨live,keep,[],[],ft,fc⟩ (MZ p s):=rfl
theorem aQZ (live keep:List Nat) (p:Nat × Nat) (fc:List (Nat × Nat)) (s:St):tL.app ⟨live,keep,[],[],[],p :: fc⟩ s = tL.app ⟨live,keep,[],[],[],fc⟩ (frC p s):=rfl
end
end Vm
end Go.Proofs.Ytgjcnbgfaimepaa
namespace Go.Proofs.Ytgjcnbgfaimepaa
namespace Vm
open Go.RowKit
def at? {α:Type} (xs:List α) (n:Int):Option α:=if 0 <= n then xs[n.toNat]? else none
def cI (n:Int):List D:=[.int .i64 n]
def cB (b:Bool):List D:=[.bool b]
def cS (s:ByteArray):List D:=[.str s]
def cK (k:IntKind) (n:Int):List D:=[.int k n]
def cM {α:Type} (c:α->List D) (xs:List α):List (List D):=xs.map c
def cL {α:Type} (c:α->List D) (xs:List α):List D:=[.sl (cM c xs)]
def kU {α:Type} (xs:List α) (l h:Int):List α:=(xs.take h.toNat).drop l.toNat
def i8 (n:Nat) (l h:Int):Prop:=0 <= l ∧ l <= h ∧ h.toNat <= n
instance (n:Nat) (l h:Int):Decidable (i8 n l h):=inferInstanceAs (Decidable (_ ∧ _ ∧ _))
def sAt (s:ByteArray) (n:Int):Option Int:=if 0 <= n then s[n.toNat]?.map fun b=>(b.toNat:Int) else none
section
variable {β:Type} {T:vS} {site:Nat} {ev:bD->V} {bl:Nat->Option aI} (k:V->List (Nat × Option aI)->Option β)
def V8 (size:Nat) (x i:V) (bl:Nat->Option aI):JE:=match i with
  | .d (.int _ n)=>match x with
   | .own id ver=>match bl id with
    | some (.rows v e sz rows)=>if ver = v ∧ sz = size ∧ 0 <= n ∧ n.toNat < rows.length then some (.orow id ver n.toNat 0,[]) else none
    | some (.froz v rows)=>if ver = v ∧ 0 <= n then match rows[n.toNat]? with
     | some row=>if row.length = size then some (.d (.ptr row 0),[]) else none
     | none=>none
     else none
    | _=>none
   | .d (.sl rows)=>if 0 <= n then match rows[n.toNat]? with
    | some row=>if row.length = size then some (.d (.ptr row 0),[]) else none
    | none=>none
    else none
   | _=>none
  | _=>none
theorem SN (C:Nat->List D->Option D) (size:Nat) (x i:bD):b8 C site ev bl (.indexAddr size x i) = V8 size (ev x) (ev i) bl:=rfl
theorem aNI {α:Type} (size:Nat) (c:α->List D) (xs:List α) (kd:IntKind) (n:Int) (bl:Nat->Option aI):GB (V8 size (.d (.sl (cM c xs))) (.d (.int kd n)) bl) k = (at? xs n).bind fun x=>if (c x).length = size then k (.d (.ptr (c x) 0)) [] else none:=by
 simp only [V8,at?,cM]
 by_cases h:0 <= n
 ·rw [if_pos h,if_pos h,List.getElem?_map]
  cases xs[n.toNat]? with
  | none=>rfl
  | some x =>
   simp only [Option.map_some,Option.bind_some]
   by_cases h2:(c x).length = size
   ·rw [if_pos h2,if_pos h2]; rfl
   ·rw [if_neg h2,if_neg h2]; rfl
 ·rw [if_neg h,if_neg h]; rfl
def aHK (size id ver:Nat) (n:Int) (b:Option aI):JE:=match b with
 | some (.rows v e sz rows)=>if ver = v ∧ sz = size ∧ 0 <= n ∧ n.toNat < rows.length then some (.orow id ver n.toNat 0,[]) else none
 | some (.froz v rows)=>if ver = v ∧ 0 <= n then match rows[n.toNat]? with
  | some row=>if row.length = size then some (.d (.ptr row 0),[]) else none
  | none=>none
  else none
 | _=>none
theorem aEa (size id ver v e sz:Nat) (n:Int) (rows:List (List D)) (k:V->List (Nat × Option aI)->Option β):GB (aHK size id ver n (some (.rows v e sz rows))) k = if ver = v then (if sz = size then (if 0 <= n ∧ n.toNat < rows.length then k (.orow id ver n.toNat 0) [] else none) else none) else none:=by
 simp only [aHK]
 by_cases h1:ver = v
 ·by_cases h2:sz = size
  ·by_cases h3:0 <= n ∧ n.toNat < rows.length
   ·rw [if_pos ⟨h1,h2,h3⟩,if_pos h1,if_pos h2,if_pos h3]; rfl
   ·rw [if_neg (fun q=>h3 q.2.2),if_pos h1,if_pos h2,if_neg h3]; rfl
  ·rw [if_neg (fun q=>h2 q.2.1),if_pos h1,if_neg h2]; rfl
 ·rw [if_neg (fun q=>h1 q.1),if_neg h1]; rfl
theorem aGV {α:Type} (size id ver v:Nat) (n:Int) (c:α->List D) (xs:List α) (k:V->List (Nat × Option aI)->Option β):GB (aHK size id ver n (some (.froz v (cM c xs)))) k = if ver = v then ((at? xs n).bind fun x=>if (c x).length = size then k (.d (.ptr (c x) 0)) [] else none) else none:=by
 simp only [aHK,at?,cM]
 by_cases h1:ver = v
 ·by_cases h:0 <= n
  ·rw [if_pos ⟨h1,h⟩,if_pos h1,if_pos h,List.getElem?_map]
   cases xs[n.toNat]? with
   | none=>rfl
   | some x =>
    simp only [Option.map_some,Option.bind_some]
    by_cases h2:(c x).length = size
    ·rw [if_pos h2,if_pos h2]; rfl
    ·rw [if_neg h2,if_neg h2]; rfl
  ·rw [if_neg (fun q=>h q.2),if_pos h1,if_neg h]; rfl
 ·rw [if_neg (fun q=>h1 q.1),if_neg h1]; rfl
def YE (size:Nat) (isAgg:Bool) (off:Nat) (row:List D):JE :=
 if isAgg then (if off + size <= row.length then some (.agg (((row.drop off).take size).map .d),[]) else none) else row[off]?.map fun v=>(.d v,[])
def aDu (size:Nat) (isAgg:Bool) (off:Nat) (b:Option aI):JE:=match b with
 | some (.box cs) =>
  if isAgg then (if off + size <= cs.length then some (.agg ((cs.drop off).take size),[]) else none)
  else cs[off]?.map fun v=>(v,[])
 | some (.fbox row)=>YE size isAgg off row
 | _=>none
def aI2 (size:Nat) (isAgg:Bool) (ver i off:Nat) (b:Option aI):JE:=match b with
 | some (.rows v e sz rows)=>if ver = v then match rows[i]? with
  | some row=>YE size isAgg off row
  | none=>none
  else none
 | _=>none
def ME (size:Nat) (isAgg:Bool) (x:V) (bl:Nat->Option aI):JE:=match x with
 | .ptr id off=>aDu size isAgg off (bl id)
 | .d (.ptr row off)=>YE size isAgg off row
 | .orow id ver i off=>aI2 size isAgg ver i off (bl id)
 | _=>none
theorem H5 (C:Nat->List D->Option D) (size:Nat) (isAgg:Bool) (x:bD):b8 C site ev bl (.load size isAgg x) = ME size isAgg (ev x) bl:=rfl
theorem aFO (size:Nat) (isAgg:Bool) (id off:Nat) (bl:Nat->Option aI):ME size isAgg (.ptr id off) bl = aDu size isAgg off (bl id):=rfl
theorem aNd (size:Nat) (isAgg:Bool) (id ver i off:Nat) (bl:Nat->Option aI):ME size isAgg (.orow id ver i off) bl = aI2 size isAgg ver i off (bl id):=rfl
theorem aL8 (size off:Nat) (cs:List V):aDu size true off (some (.box cs)) = if off + size <= cs.length then some (.agg ((cs.drop off).take size),[]) else none:=rfl
theorem aOf (size off:Nat) (cs:List V):aDu size false off (some (.box cs)) = cs[off]?.map fun v=>(v,[]):=rfl
def QB (size ver i off id:Nat) (fz:List (Nat × Option aI)) (ds:Option (List D)) (b:Option aI):JE:=match b with
 | some (.rows w e sz rows)=>if ver = w then match rows[i]?,ds with
  | some row,some ds=>if ds.length = size ∧ off + size <= row.length ∧ A3 id fz = true then some (.any,(id,some (.rows w e sz (rows.set i (hZ row off ds)))) :: fz) else none
  | _,_=>none
  else none
 | _=>none
def aCk (size off id:Nat) (v:V) (b:Option aI):JE:=match b with
 | some (.box cs)=>if v.cells.length = size ∧ off + size <= cs.length ∧ v.known = true then some (.any,[(id,some (.box (hZ cs off v.cells)))]) else none
 | _=>none
def aBH (size:Nat) (x v:V) (bl:Nat->Option aI):JE:=match x with
 | .ptr id off=>aCk size off id v (bl id)
 | .orow id ver i off=>QB size ver i off id (vN bl v) (aK (iD bl) v.cells) (bl id)
 | _=>none
theorem aGy (C:Nat->List D->Option D) (size:Nat) (x v:bD):b8 C site ev bl (.store size x v) = aBH size (ev x) (ev v) bl:=rfl
theorem aHC (size id off:Nat) (v:V) (bl:Nat->Option aI):aBH size (.ptr id off) v bl = aCk size off id v (bl id):=rfl
theorem aKH (size id ver i off:Nat) (v:V) (bl:Nat->Option aI):aBH size (.orow id ver i off) v bl = QB size ver i off id (vN bl v) (aK (iD bl) v.cells) (bl id):=rfl
theorem aA4 (size off id:Nat) (v:V) (cs:List V):aCk size off id v (some (.box cs)) = if v.cells.length = size ∧ off + size <= cs.length ∧ v.known = true then some (.any,[(id,some (.box (hZ cs off v.cells)))]) else none:=rfl
theorem aEJ (C:Nat->List D->Option D) (size:Nat) (x:bD) (lo hi:Option bD):b8 C site ev bl (.slice size x lo hi) = wN bl size (ev x) (lo.map ev) (hi.map ev):=rfl
def aJj (ver:Nat) (b:Option aI):Option (List (List D)):=match b with
 | some (.rows v _ _ rows)=>if ver = v then some rows else none
 | some (.froz v rows)=>if ver = v then some rows else none
 | _=>none
def CK (v:Option V) (d:Int):Option Int:=match v with
 | none=>some d
 | some (.d (.int _ h))=>some h
 | _=>none
theorem aGf {α:Type} (size:Nat) (c:α->List D) (xs:List α) (lo hi:Option V) (l h:Int) (hl:CK lo 0 = some l) (hh:CK hi (xs.length:Int) = some h) (hs:sized size (cM c xs) = true) (bl:Nat->Option aI):GB (wN bl size (.d (.sl (cM c xs))) lo hi) k = if i8 xs.length l h then k (.d (.sl (cM c (kU xs l h)))) [] else none:=by
 have e0:∀ lo' hi',wN bl size (.d (.sl (cM c xs))) lo' hi' = (match CK hi' ((cM c xs).length:Int),CK lo' 0 with
   | some h,some l=>if 0 <= l ∧ l <= h ∧ h.toNat <= (cM c xs).length ∧ sized size (cM c xs) = true then some (.d (.sl (((cM c xs).take h.toNat).drop l.toNat)),[]) else none
   | _,_=>none):=fun lo' hi'=>rfl
 rw [e0,show ((cM c xs).length:Int) = (xs.length:Int) by simp [cM],hl,hh]
 simp only [show (cM c xs).length = xs.length by simp [cM]]
 by_cases q:i8 xs.length l h
 ·rw [if_pos q,if_pos ⟨q.1,q.2.1,q.2.2,hs⟩]
  simp only [aEA,cM,kU,List.map_drop,List.map_take]
 ·rw [if_neg q,if_neg (fun w=>q ⟨w.1,w.2.1,w.2.2.1⟩)]; rfl
def HD (x i:V):JE:=match x,i with
  | .d (.str s),.d (.int _ n)=>if 0 <= n then match s[n.toNat]? with
   | some b=>some (.d (.int .u8 b.toNat),[])
   | none=>none
   else none
  | _,_=>none
theorem aGB (C:Nat->List D->Option D) (x i:bD):b8 C site ev bl (.index x i) = HD (ev x) (ev i):=rfl
theorem aJn (s:ByteArray) (kd:IntKind) (n:Int):GB (HD (.d (.str s)) (.d (.int kd n))) k = (sAt s n).bind fun b=>k (.d (.int .u8 b)) []:=by
 simp only [HD,sAt]
 split
 ·cases s[n.toNat]? <;> rfl
 ·rfl
end
section
variable {S X:Type} {enc:S->St} {out:X->Ex × St}
theorem aFM (c:Prop) [Decidable c] (a b:Option (S ⊕ X)):cD enc out (if c then a else b) = if c then cD enc out a else cD enc out b:=by split <;> rfl
theorem aCL {α:Type} (o:Option α) (f:α->Option (S ⊕ X)):cD enc out (o.bind f) = o.bind fun x=>cD enc out (f x):=by cases o <;> rfl
theorem aBM:cD enc out none = none:=rfl
theorem aDZ (s:S):cD enc out (some (.inl s)) = some (.normal,enc s):=rfl
theorem aGZ (x:X):cD enc out (some (.inr x)) = some (out x):=rfl
end
theorem qL {α:Type} (size:Nat) (c:α->List D) (hc:∀ x,(c x).length = size) (xs:List α):sized size (cM c xs) = true:=by
 simp [sized,cM,hc]
theorem aJ4 (xs:List Int):sized 1 (cM cI xs) = true:=qL _ _ (fun x=>by rfl) xs
theorem aKA (k:IntKind) (xs:List Int):sized 1 (cM (cK k) xs) = true:=qL _ _ (fun x=>by rfl) xs
theorem W8 (xs:List Bool):sized 1 (cM cB xs) = true:=qL _ _ (fun x=>by rfl) xs
theorem aHz (xs:List ByteArray):sized 1 (cM cS xs) = true:=qL _ _ (fun x=>by rfl) xs
theorem aIU {α:Type} (c:α->List D) (xs:List (List α)):sized 1 (cM (cL c) xs) = true:=qL _ _ (fun x=>by rfl) xs
theorem vK {α:Type} (c:α->List D) (xs:List α):(cM c xs).length = xs.length:=by simp [cM]
theorem aDS {α:Type} (c:α->List D) (xs ys:List α):cM c xs ++ cM c ys = cM c (xs ++ ys):=by simp [cM]
theorem aP7 {α:Type} (c:α->List D) (xs:List α) (i:Nat) (x:α):cM c (xs.set i x) = (cM c xs).set i (c x):=by simp [cM,List.map_set]
theorem VU {α:Type} (c:α->List D) (n:Nat) (x:α):cM c (List.replicate n x) = List.replicate n (c x):=by simp [cM]
theorem aIk {α γ:Type} (c:Prop) [Decidable c] (a b:Option α) (f:α->Option γ):(if c then a else b).bind f = if c then a.bind f else b.bind f:=by split <;> rfl
theorem aLM {α γ:Type} (c:Prop) [Decidable c] (a b:Option α) (f:α->γ):(if c then a else b).map f = if c then a.map f else b.map f:=by split <;> rfl
theorem bind_map {α γ δ:Type} (o:Option α) (f:α->Option γ) (g:γ->δ):(o.bind f).map g = o.bind fun x=>(f x).map g:=by cases o <;> rfl
theorem aGm {α γ:Type} (f:α->Option γ):(none:Option α).bind f = none:=rfl
theorem aEK {α γ δ ε:Type} (f:α->Option δ) (g:γ->Option δ) (x:α ⊕ γ) (h:δ->Option ε):(Sum.elim f g x).bind h = Sum.elim (fun y=>(f y).bind h) (fun y=>(g y).bind h) x:=by cases x <;> rfl
theorem aKz {α γ δ ε:Type} (f:α->Option δ) (g:γ->Option δ) (x:α ⊕ γ) (h:δ->ε):(Sum.elim f g x).map h = Sum.elim (fun y=>(f y).map h) (fun y=>(g y).map h) x:=by cases x <;> rfl
def gIf {α:Type} (b:Bool) (x y:α):α:=if b = true then x else y
theorem aHw {α:Type} (b:Bool) (x y:α):gIf b x y = if b = true then x else y:=rfl
theorem aAK {S X α γ:Type} {enc:S->St} {out:X->Ex × St} (f:α->Option (S ⊕ X)) (g:γ->Option (S ⊕ X)) (x:α ⊕ γ):cD enc out (Sum.elim f g x) = Sum.elim (fun y=>cD enc out (f y)) (fun y=>cD enc out (g y)) x:=by cases x <;> rfl
def aTX (sf:cJ):Ex->St->Option D
 | .normal,s=>GN sf s
 | .ret,s=>GN sf s
 | .exit _,_=>none
theorem WK {T:vS} {f:Nat} {sf:cJ} (hf:T f = some (.code sf)) (ds:List D) (hl:ds.length = sf.np) (hlt:iV 0 ds = none):Vm.call T f ds = bP T sf.body ⟨nJ 0 ds,[]⟩ (aTX sf):=by
 rw [aLI hf ds hl hlt]
 unfold bP
 cases Vm.ev T sf.body ⟨nJ 0 ds,[]⟩ with
 | none=>rfl
 | some q =>
  obtain ⟨e,s⟩:=q
  cases e <;> rfl
theorem aL {α β:Type} (o:Option α) {f g:α->Option β} (h:∀ x,f x = g x):o.bind f = o.bind g:=by rw [funext h]
end Vm
end Go.Proofs.Ytgjcnbgfaimepaa
namespace Go.Proofs.Ytgjcnbgfaimepaa
namespace Vm
open Go.RowKit
section
variable {β:Type}
def hU (fr:List (Nat × V)) (t:Nat) (k:V->Option β):Option β:=k (lk fr .any t)
def aZ (bl:List (Nat × Option aI)) (i:Nat) (k:Option aI->Option β):Option β:=k (lk bl none i)
def bN (fr:List (Nat × V)) (o:bD) (k:V->Option β):Option β:=k (bC (lk fr .any) o)
theorem aJf (t:Nat) (v:V) (fr:List (Nat × V)) (k:V->Option β):hU ((t,v) :: fr) t k = k v:=by simp [hU,lk]
theorem aGX (a t:Nat) (v:V) (fr:List (Nat × V)) (k:V->Option β) (h:(t == a) = false):hU ((a,v) :: fr) t k = hU fr t k:=by
 have:¬ t = a:=by simpa using h
 simp [hU,lk,this]
theorem aIQ (t:Nat) (k:V->Option β):hU [] t k = k .any:=rfl
theorem aLf (t:Nat) (v:Option aI) (fr:List (Nat × Option aI)) (k:Option aI->Option β):aZ ((t,v) :: fr) t k = k v:=by simp [aZ,lk]
theorem aEi (a t:Nat) (v:Option aI) (fr:List (Nat × Option aI)) (k:Option aI->Option β) (h:(t == a) = false):aZ ((a,v) :: fr) t k = aZ fr t k:=by
 have:¬ t = a:=by simpa using h
 simp [aZ,lk,this]
theorem aLg (t:Nat) (k:Option aI->Option β):aZ [] t k = k none:=rfl
theorem aOn (bl:List (Nat × Option aI)) (t:Nat) (k:Option aI->Option β):aZ ([] ++ bl) t k = aZ bl t k:=rfl
theorem aL2 (p:Nat × Option aI) (w bl:List (Nat × Option aI)) (t:Nat) (k:Option aI->Option β):aZ ((p :: w) ++ bl) t k = aZ (p :: (w ++ bl)) t k:=rfl
theorem aQ0 (fr:List (Nat × V)) (t:Nat) (k:V->Option β):bN fr (.t t) k = hU fr t k:=rfl
theorem aPK (fr:List (Nat × V)) (v:V) (k:V->Option β):bN fr (.c v) k = k v:=rfl
def aQ (ds:List D):List V:=ds.map .d
def kM (ds:List D):V:=.agg (aQ ds)
noncomputable def rE (T:vS) (d:Nat) (op:e8) (fr:List (Nat × V)) (bl:List (Nat × Option aI)) (k:V->Option β) (kw:V->List (Nat × Option aI)->Option β):Option β :=
 match b8 (call T) d (bC (lk fr .any)) (lk bl none) op with
 | none=>none
 | some (v,[])=>k v
 | some (v,p :: wr)=>kw v (p :: wr)
theorem aEQ {T:vS} (d st:Nat) (op:e8) (l:List aM) (fr:List (Nat × V)) (bl:List (Nat × Option aI)) (k:St->Option β) :
  sZ T (⟨some d,op,none,st⟩ :: l) ⟨fr,bl⟩ k = rE T st op fr bl (fun v=>sZ T l ⟨(d,v) :: fr,bl⟩ k) (fun v wr=>sZ T l ⟨(d,v) :: fr,wr ++ bl⟩ k):=by
 rw [TJ]
 unfold rE GB
 show (match b8 (call T) st (bC (lk fr .any)) (lk bl none) op with | some (v,wr)=>_ | none=>none) = _
 cases b8 (call T) st (bC (lk fr .any)) (lk bl none) op with
 | none=>rfl
 | some r=>obtain ⟨v,wr⟩:=r; cases wr <;> rfl
theorem aAn {T:vS} (st:Nat) (op:e8) (l:List aM) (fr:List (Nat × V)) (bl:List (Nat × Option aI)) (k:St->Option β) :
  sZ T (⟨none,op,none,st⟩ :: l) ⟨fr,bl⟩ k = rE T st op fr bl (fun _=>sZ T l ⟨fr,bl⟩ k) (fun _ wr=>sZ T l ⟨fr,wr ++ bl⟩ k):=by
 rw [TJ]
 unfold rE GB
 show (match b8 (call T) st (bC (lk fr .any)) (lk bl none) op with | some (v,wr)=>_ | none=>none) = _
 cases b8 (call T) st (bC (lk fr .any)) (lk bl none) op with
 | none=>rfl
 | some r=>obtain ⟨v,wr⟩:=r; cases wr <;> rfl
def LP (t:Nat) (b:Bool) (op:e8):e8:=match op with
 | .pick (.t t') x y=>if t' = t then .move (if b then x else y) else op
 | op=>op
def MV (t:Nat) (b:Bool) (o:aM):aM:=match o.guard with
 | some (t',w)=>if t' = t then (if w = b then ⟨o.dst,LP t b o.op,none,o.site⟩ else ⟨o.dst,.move (.c (.tup [])),none,o.site⟩) else ⟨o.dst,LP t b o.op,some (t',w),o.site⟩
 | none=>⟨o.dst,LP t b o.op,none,o.site⟩
def AN (t:Nat) (b:Bool):List aM->List aM
 | []=>[]
 | o :: l=>MV t b o :: (if o.dst = some t then l else AN t b l)
theorem AD {C:Nat->List D->Option D} {site:Nat} {fr:Nat->V} {bl:Nat->Option aI} {t:Nat} {b:Bool} (h:fr t = .d (.bool b)) (op:e8):b8 C site (bC fr) bl (LP t b op) = b8 C site (bC fr) bl op:=by
 cases op with
 | pick c x y =>
  cases c with
  | t t' =>
   simp only [LP]
   split
   ·rename_i e
    subst e
    simp only [b8,bC,h]
    cases b <;> rfl
   ·rfl
  | c v=>rfl
 | _=>rfl
theorem aFX {C:Nat->List D->Option D} {s:St} {t:Nat} {b:Bool} (h:s.get t = .d (.bool b)) (o:aM):yE C (MV t b o) s = yE C o s:=by
 obtain ⟨d,op,g,st⟩:=o
 cases g with
 | some g =>
  obtain ⟨t',w⟩:=g
  simp only [MV]
  split
  ·rename_i e
   subst e
   split
   ·rename_i e
    subst e
    simp only [yE,aM.wants,h,AD h]
    cases w <;> rfl
   ·rename_i e
    simp only [yE,aM.wants,h,b8,bC]
    cases w <;> cases b <;> simp_all [yF]
  ·simp only [yE,aM.wants,AD h]
 | none=>simp only [MV,yE,aM.wants,AD h]
theorem DY {s:St} {d:Option Nat} {v:V} {wr:List (Nat × Option aI)} {t:Nat} (h:¬ d = some t):(s.put d v wr).get t = s.get t:=by
 cases d with
 | none=>rfl
 | some a =>
  show lk ((a,v) :: s.fr) .any t = lk s.fr .any t
  have:¬ t = a:=fun e=>h (by rw [e])
  simp [lk,this]
theorem aGp {C:Nat->List D->Option D} {o:aM} {s s' : St} {t:Nat} (h:¬ o.dst = some t) (e:yE C o s = some s'):s'.get t = s.get t:=by
 unfold yE at e
 split at e
 ·split at e
  ·cases e; exact DY h
  ·cases e
 ·cases e; exact DY h
 ·cases e
theorem M5 {C:Nat->List D->Option D} {t:Nat} {b:Bool}:∀ (l:List aM) {s:St} (h:s.get t = .d (.bool b)),gZ C (AN t b l) s = gZ C l s
 | [],s,h=>rfl
 | o :: l,s,h=>by
  simp only [AN,gZ,aFX h]
  cases e:yE C o s with
  | none=>rfl
  | some s' =>
   simp only
   split
   ·rfl
   ·rename_i hd
    exact M5 l (by rw [aGp hd e]; exact h)
noncomputable def K8 (T:vS) (v:V) (t:Nat) (l:List aM) (s:St) (k:St->Option β):Option β:=match v with
 | .d (.bool b)=>if b = true then sZ T (AN t true l) s k else sZ T (AN t false l) s k
 | .tup []=>match l with
  | o :: r=>sZ T r (s.put o.dst (.tup []) []) k
  | []=>none
 | _=>none
theorem aAD {T:vS} (d:Option Nat) (op:e8) (t:Nat) (w:Bool) (st:Nat) (l:List aM) (fr:List (Nat × V)) (bl:List (Nat × Option aI)) (k:St->Option β) :
  sZ T (⟨d,op,some (t,w),st⟩ :: l) ⟨fr,bl⟩ k = hU fr t fun v=>K8 T v t (⟨d,op,some (t,w),st⟩ :: l) ⟨fr,bl⟩ k:=by
 show _ = K8 T (lk fr .any t) t _ _ k
 generalize hv:lk fr .any t = v
 have bad:∀ (q:yF v w = .bad),sZ T (⟨d,op,some (t,w),st⟩ :: l) ⟨fr,bl⟩ k = none:=by
  intro q
  unfold sZ
  simp only [gZ,yE,aM.wants]
  rw [show (St.get ⟨fr,bl⟩ t) = v from hv,q]; rfl
 cases v with
 | d x =>
  cases x with
  | bool b =>
   simp only [K8]
   cases b with
   | true=>rw [if_pos rfl]; unfold sZ; rw [M5 (t:=t) (b:=true) (s:=⟨fr,bl⟩) _ hv]
   | false=>rw [if_neg (by decide)]; unfold sZ; rw [M5 (t:=t) (b:=false) (s:=⟨fr,bl⟩) _ hv]
  | _=>exact bad rfl
 | tup vs =>
  cases vs with
  | nil =>
   simp only [K8]
   unfold sZ
   simp only [gZ,yE,aM.wants]
   rw [show (St.get ⟨fr,bl⟩ t) = _ from hv]
   rfl
  | cons x l=>exact bad rfl
 | _=>exact bad rfl
theorem aJs {T:vS} (b:Bool) (t:Nat) (l:List aM) (s:St) (k:St->Option β):K8 T (.d (.bool b)) t l s k = if b = true then sZ T (AN t true l) s k else sZ T (AN t false l) s k:=rfl
theorem aHb {T:vS} (t d st:Nat) (op:e8) (g:Option (Nat × Bool)) (l:List aM) (fr:List (Nat × V)) (bl:List (Nat × Option aI)) (k:St->Option β):K8 T (.tup []) t (⟨some d,op,g,st⟩ :: l) ⟨fr,bl⟩ k = sZ T l ⟨(d,.tup []) :: fr,bl⟩ k:=rfl
theorem aFr {T:vS} (t st:Nat) (op:e8) (g:Option (Nat × Bool)) (l:List aM) (fr:List (Nat × V)) (bl:List (Nat × Option aI)) (k:St->Option β):K8 T (.tup []) t (⟨none,op,g,st⟩ :: l) ⟨fr,bl⟩ k = sZ T l ⟨fr,bl⟩ k:=rfl
theorem AK {T:vS} {l l' : List aM} {s:St} {k:St->Option β} (h:l = l'):sZ T l s k = sZ T l' s k:=by rw [h]
section
variable {T:vS} {d:Nat} {fr:List (Nat × V)} {bl:List (Nat × Option aI)} {k:V->Option β} {kw:V->List (Nat × Option aI)->Option β}
def FD (r:JE) (k:V->Option β) (kw:V->List (Nat × Option aI)->Option β):Option β:=match r with
 | none=>none
 | some (v,[])=>k v
 | some (v,p :: wr)=>kw v (p :: wr)
theorem PV (o:Option D):FD (JE.v o) k kw = o.bind fun x=>k (.d x):=by cases o <;> rfl
theorem aJJ:rE T d .fail fr bl k kw = none:=rfl
theorem aIs (x:bD):rE T d (.move x) fr bl k kw = bN fr x k:=rfl
theorem aHa (c a b:bD):rE T d (.pick c a b) fr bl k kw = bN fr c fun v=>MK v (bN fr a k) (bN fr b k):=by
 unfold rE bN MK
 simp only [b8]
 generalize bC (lk fr .any) c = v
 cases v with
 | d x=>cases x with
  | bool b=>cases b <;> rfl
  | _=>rfl
 | _=>rfl
theorem aL3 (x y:Option β):MK (.d (.bool true)) x y = x:=rfl
theorem aNh (x y:Option β):MK (.d (.bool false)) x y = y:=rfl
def fL (b:Option aI) (x:Option β):Option β:=match b with
 | none=>x
 | some _=>none
theorem aOz (x:Option β):fL none x = x:=rfl
theorem aMJ (b:aI) (x:Option β):fL (some b) x = none:=rfl
theorem aGS (z:List V):rE T d (.alloc z) fr bl k kw = aZ bl d fun b=>fL b (kw (.ptr d 0) [(d,some (.box z))]):=by
 unfold rE aZ fL
 simp only [b8]
 cases lk bl none d <;> rfl
def uR (v:V) (k:List V->Option β):Option β:=if v.known = true then k v.cells else none
theorem aJK (x:D) (k:List V->Option β):uR (.d x) k = k [.d x]:=rfl
theorem aBZ (k:List V->Option β):uR .nil k = k [.nil]:=rfl
theorem aAM (cs:List V) (k:List V->Option β):uR (.agg cs) k = k cs:=rfl
theorem ZA (ds:List D) (k:List V->Option β):uR (kM ds) k = k (aQ ds):=rfl
theorem aBz (i o:Nat) (k:List V->Option β):uR (.ptr i o) k = k [.ptr i o]:=rfl
theorem aAN (i o:Nat) (k:List V->Option β):uR (.own i o) k = k [.own i o]:=rfl
theorem ZZ (i v j o:Nat) (k:List V->Option β):uR (.orow i v j o) k = k [.orow i v j o]:=rfl
theorem aCi (k:List V->Option β):uR .any k = none:=rfl
theorem aOy (x:bD):rE T d (.box x) fr bl k kw = aZ bl d fun b=>fL b (bN fr x fun v=>uR v fun cs=>kw (.ptr d 0) [(d,some (.box cs))]):=by
 unfold rE aZ fL bN uR
 simp only [b8]
 cases lk bl none d with
 | none =>
  simp only
  by_cases h:(bC (lk fr .any) x).known = true
  ·rw [if_pos h,if_pos h]
  ·rw [if_neg h,if_neg h]
 | some b=>rfl
def FT (fr:List (Nat × V)):List bD->(List V->Option β)->Option β
 | [],k=>k []
 | x :: l,k=>bN fr x fun v=>FT fr l fun vs=>k (v :: vs)
theorem LM (l:List bD) (k:List V->Option β):FT fr l k = k (l.map (bC (lk fr .any))):=by
 induction l generalizing k with
 | nil=>rfl
 | cons x l ih=>simp only [FT,bN,ih,List.map_cons]
theorem aFH (k:List V->Option β):FT fr [] k = k []:=rfl
theorem aBO (x:bD) (l:List bD) (k:List V->Option β):FT fr (x :: l) k = bN fr x fun v=>FT fr l fun vs=>k (v :: vs):=rfl
def KP (fr:List (Nat × V)):List (Nat × Nat × bD)->(List (Nat × Nat × V)->Option β)->Option β
 | [],k=>k []
 | (o,s,x) :: l,k=>bN fr x fun v=>KP fr l fun vs=>k ((o,s,v) :: vs)
theorem iK (op:e8):rE T d op fr bl k kw = FD (b8 (call T) d (bC (lk fr .any)) (lk bl none) op) k kw:=by
 unfold rE FD
 cases b8 (call T) d (bC (lk fr .any)) (lk bl none) op with
 | none=>rfl
 | some r=>obtain ⟨v,wr⟩:=r; cases wr <;> rfl
theorem C8 (r:JE):FD r k kw = GB r fun v wr=>match wr with | []=>k v | p :: w=>kw v (p :: w):=by
 cases r with
 | none=>rfl
 | some r=>obtain ⟨v,wr⟩:=r; cases wr <;> rfl
def B8:List V->Nat->(V->Option β)->Option β
 | [],_,_=>none
 | c :: _,0,k=>k c
 | _ :: cs,n + 1,k=>B8 cs n k
theorem LI (cs:List V) (n:Nat) (k:V->Option β):B8 cs n k = cs[n]?.bind k:=by
 induction cs generalizing n with
 | nil=>rfl
 | cons c cs ih=>cases n with
  | zero=>rfl
  | succ n=>simp only [B8,ih,List.getElem?_cons_succ]
theorem aMf (c:V) (cs:List V) (k:V->Option β):B8 (c :: cs) 0 k = k c:=rfl
theorem aO7 (c:V) (cs:List V) (n:Nat) (k:V->Option β):B8 (c :: cs) (n + 1) k = B8 cs n k:=rfl
def eW (ds:List D) (n:Nat) (k:D->Option β):Option β:=ds[n]?.bind k
def yQ (ds:List D) (off size:Nat) (k:List D->Option β):Option β:=if off + size <= ds.length then k ((ds.drop off).take size) else none
def vC (cs:List V) (off size:Nat) (k:List V->Option β):Option β:=if off + size <= cs.length then k ((cs.drop off).take size) else none
theorem aC8 (ds:List D) (n:Nat) (k:V->Option β):B8 (aQ ds) n k = eW ds n fun x=>k (.d x):=by
 rw [LI]
 unfold aQ eW
 rw [List.getElem?_map]
 cases ds[n]? <;> rfl
theorem aDX (cs:List V) (n:Nat) (k:List V->Option β) (h:cs.length = n):vC cs 0 n k = k cs:=by
 subst h
 simp [vC]
theorem aCr (c:V) (cs:List V) (off n:Nat) (k:List V->Option β):vC (c :: cs) (off + 1) n k = vC cs off n k:=by
 unfold vC
 simp only [List.length_cons,List.drop_succ_cons]
 by_cases h:off + n <= cs.length
 ·rw [if_pos h,if_pos (by omega)]
 ·rw [if_neg h,if_neg (by omega)]
theorem aCE (c:V) (cs:List V) (n:Nat) (k:List V->Option β):vC (c :: cs) 0 (n + 1) k = vC cs 0 n fun l=>k (c :: l):=by
 unfold vC
 simp only [List.length_cons,List.drop_zero,List.take_succ_cons]
 by_cases h:0 + n <= cs.length
 ·rw [if_pos h,if_pos (by omega)]
 ·rw [if_neg h,if_neg (by omega)]
theorem aA9 (cs:List V) (k:List V->Option β):vC cs 0 0 k = k []:=by simp [vC]
theorem UN (ds:List D) (off n:Nat) (k:List V->Option β):vC (aQ ds) off n k = yQ ds off n fun l=>k (aQ l):=by
 unfold vC yQ aQ
 simp only [List.length_map,List.map_take,List.map_drop]
def E4 (size:Nat) (isAgg:Bool) (off:Nat) (b:Option aI) (k:V->Option β):Option β:=match b with
 | some (.box cs)=>if isAgg = true then vC cs off size fun l=>k (.agg l) else B8 cs off k
 | some (.fbox row)=>if isAgg = true then yQ row off size fun l=>k (kM l) else eW row off fun x=>k (.d x)
 | _=>none
def P4 (size:Nat) (isAgg:Bool) (ver i off:Nat) (b:Option aI) (k:V->Option β):Option β:=match b with
 | some (.rows v e sz rows)=>if ver = v then rows[i]?.bind fun row=>(if isAgg = true then yQ row off size fun l=>k (kM l) else eW row off fun x=>k (.d x)) else none
 | _=>none
def yH (size:Nat) (isAgg:Bool) (x:V) (bl:List (Nat × Option aI)) (k:V->Option β):Option β:=match x with
 | .ptr id off=>aZ bl id fun b=>E4 size isAgg off b k
 | .d (.ptr row off)=>if isAgg = true then yQ row off size fun l=>k (kM l) else eW row off fun x=>k (.d x)
 | .orow id ver i off=>aZ bl id fun b=>P4 size isAgg ver i off b k
 | _=>none
theorem W9 (size:Nat) (isAgg:Bool) (x:bD):rE T d (.load size isAgg x) fr bl k kw = bN fr x fun v=>yH size isAgg v bl k:=by
 rw [iK,H5]
 unfold bN
 generalize bC (lk fr .any) x = v
 have hD:∀ row off,FD (YE size isAgg off row) k kw = if isAgg = true then yQ row off size fun l=>k (kM l) else eW row off fun x=>k (.d x):=by
  intro row off
  unfold YE
  cases isAgg with
  | true=>simp only [if_true,yQ]; split <;> rfl
  | false=>simp only [Bool.false_eq_true,if_false,eW]; cases row[off]? <;> rfl
 cases v with
 | ptr id off =>
  rw [aFO]
  simp only [yH,aZ]
  generalize lk bl none id = b
  cases b with
  | none=>rfl
  | some b=>cases b with
   | box cs =>
    cases isAgg with
    | true=>simp only [aL8,E4,if_true,vC]; split <;> rfl
    | false=>simp only [aOf,E4,Bool.false_eq_true,if_false,LI]; cases cs[off]? <;> rfl
   | fbox row=>exact hD row off
   | _=>rfl
 | d x=>cases x with
  | ptr row off=>exact hD row off
  | _=>rfl
 | orow id ver i off =>
  rw [aNd]
  simp only [yH,aZ]
  generalize lk bl none id = b
  cases b with
  | none=>rfl
  | some b=>cases b with
   | rows v e sz rows =>
    simp only [aI2,P4]
    split
    ·cases rows[i]? with
     | none=>rfl
     | some row=>exact hD row off
    ·rfl
   | _=>rfl
 | _=>rfl
theorem aEP (size:Nat) (isAgg:Bool) (id off:Nat):yH size isAgg (.ptr id off) bl k = aZ bl id fun b=>E4 size isAgg off b k:=rfl
theorem aJv (size:Nat) (row:List D) (off:Nat):yH size true (.d (.ptr row off)) bl k = yQ row off size fun l=>k (kM l):=rfl
theorem aLc (size:Nat) (row:List D) (off:Nat):yH size false (.d (.ptr row off)) bl k = eW row off fun x=>k (.d x):=rfl
theorem aLK (size:Nat) (isAgg:Bool) (id ver i off:Nat):yH size isAgg (.orow id ver i off) bl k = aZ bl id fun b=>P4 size isAgg ver i off b k:=rfl
theorem aEw (size off:Nat) (row:List D):E4 size true off (some (.fbox row)) k = yQ row off size fun l=>k (kM l):=rfl
theorem aEj (size off:Nat) (row:List D):E4 size false off (some (.fbox row)) k = eW row off fun x=>k (.d x):=rfl
theorem aLj (size off:Nat) (cs:List V):E4 size false off (some (.box cs)) k = B8 cs off k:=rfl
theorem aJi (size off:Nat) (c:V) (cs:List V):E4 size true off (some (.box (c :: cs))) k = vC (c :: cs) off size fun l=>k (.agg l):=rfl
theorem aIS (size off:Nat) (ds:List D):E4 size true off (some (.box (aQ ds))) k = yQ ds off size fun l=>k (kM l):=by
 show vC (aQ ds) off size (fun l=>k (.agg l)) = _
 rw [UN]; rfl
theorem WU {α:Type} (size:Nat) (isAgg:Bool) (v i off e sz:Nat) (c:α->List D) (xs:List α):P4 size isAgg v i off (some (.rows v e sz (cM c xs))) k = xs[i]?.bind fun x=>yH size isAgg (.d (.ptr (c x) off)) [] k:=by
 simp only [P4,if_true,cM,List.getElem?_map]
 cases xs[i]? <;> rfl
def A9:List V->Nat->V->(List V->Option β)->Option β
 | [],_,_,_=>none
 | _ :: cs,0,v,k=>k (v :: cs)
 | c :: cs,n + 1,v,k=>A9 cs n v fun l=>k (c :: l)
theorem ZR (cs:List V) (n:Nat) (v:V) (k:List V->Option β):A9 cs n v k = if n + 1 <= cs.length then k (hZ cs n [v]) else none:=by
 induction cs generalizing n k with
 | nil=>rfl
 | cons c cs ih=>cases n with
  | zero=>rw [if_pos (by simp)]; cases cs <;> rfl
  | succ n =>
   simp only [A9,ih,hZ,List.length_cons]
   by_cases h:n + 1 <= cs.length
   ·rw [if_pos h,if_pos (by omega)]
   ·rw [if_neg h,if_neg (by omega)]
theorem aMi (c:V) (cs:List V) (v:V) (k:List V->Option β):A9 (c :: cs) 0 v k = k (v :: cs):=rfl
theorem aN0 (c:V) (cs:List V) (n:Nat) (v:V) (k:List V->Option β):A9 (c :: cs) (n + 1) v k = A9 cs n v fun l=>k (c :: l):=rfl
def kC (cs:List V) (off:Nat) (ws:List V) (k:List V->Option β):Option β:=if off + ws.length <= cs.length then k (hZ cs off ws) else none
theorem TB {α:Type} (l:List α) (n:Nat):hZ l n [] = l:=by cases l <;> rfl
theorem ZK (c:V) (cs:List V) (off:Nat) (ws:List V) (k:List V->Option β) (hw:ws ≠ []):kC (c :: cs) (off + 1) ws k = kC cs off ws fun l=>k (c :: l):=by
 unfold kC
 cases ws with
 | nil=>exact absurd rfl hw
 | cons w ws =>
  simp only [List.length_cons,hZ]
  by_cases h:off + (ws.length + 1) <= cs.length
  ·rw [if_pos h,if_pos (by omega)]
  ·rw [if_neg h,if_neg (by omega)]
theorem aBq (c:V) (cs:List V) (w:V) (ws:List V) (k:List V->Option β):kC (c :: cs) 0 (w :: ws) k = kC cs 0 ws fun l=>k (w :: l):=by
 unfold kC
 simp only [List.length_cons,hZ]
 by_cases h:0 + ws.length <= cs.length
 ·rw [if_pos h,if_pos (by omega)]
 ·rw [if_neg h,if_neg (by omega)]
theorem aAy (cs:List V) (k:List V->Option β):kC cs 0 [] k = k cs:=by simp [kC,TB]
def aP (size off id:Nat) (v:V) (b:Option aI) (kw:V->List (Nat × Option aI)->Option β):Option β:=match b with
 | some (.box cs)=>if v.cells.length = size ∧ off + size <= cs.length ∧ v.known = true then kw .any [(id,some (.box (hZ cs off v.cells)))] else none
 | _=>none
def LJ (size ver i off id:Nat) (v:V) (bl:List (Nat × Option aI)) (b:Option aI) (kw:V->List (Nat × Option aI)->Option β):Option β:=GB (QB size ver i off id (vN (lk bl none) v) (aK (iD (lk bl none)) v.cells) b) kw
def RI (size:Nat) (p v:V) (bl:List (Nat × Option aI)) (kw:V->List (Nat × Option aI)->Option β):Option β:=match p with
 | .ptr id off=>aZ bl id fun b=>aP size off id v b kw
 | .orow id ver i off=>aZ bl id fun b=>LJ size ver i off id v bl b kw
 | _=>none
theorem aEV (size:Nat) (x v:bD):rE T d (.store size x v) fr bl k kw = bN fr x fun p=>bN fr v fun w=>RI size p w bl kw:=by
 rw [iK,aGy]
 unfold bN
 generalize bC (lk fr .any) x = p
 generalize bC (lk fr .any) v = w
 cases p with
 | ptr id off =>
  rw [aHC]
  simp only [RI,aZ]
  generalize lk bl none id = b
  cases b with
  | none=>rfl
  | some b=>cases b with
   | box cs =>
    simp only [aA4,aP]
    by_cases h:w.cells.length = size ∧ off + size <= cs.length ∧ w.known = true
    ·rw [if_pos h,if_pos h]; rfl
    ·rw [if_neg h,if_neg h]; rfl
   | _=>rfl
 | orow id ver i off =>
  rw [aKH]
  simp only [RI,aZ,LJ]
  rw [C8]
  generalize lk bl none id = b
  cases b with
  | none=>rfl
  | some b=>cases b with
   | rows v e sz rows =>
    simp only [QB]
    by_cases h:ver = v
    ·rw [if_pos h]
     cases rows[i]? with
     | none=>rfl
     | some row =>
      cases aK (iD (lk bl none)) w.cells with
      | none=>rfl
      | some ds =>
       simp only
       split <;> rfl
    ·rw [if_neg h]; rfl
   | _=>rfl
 | _=>rfl
theorem aHl (size id off:Nat) (v:V):RI size (.ptr id off) v bl kw = aZ bl id fun b=>aP size off id v b kw:=rfl
theorem aI7 (size id ver i off:Nat) (v:V):RI size (.orow id ver i off) v bl kw = aZ bl id fun b=>LJ size ver i off id v bl b kw:=rfl
theorem IM (off id:Nat) (w c:V) (cs:List V) (hw:w.one = true) (hk:w.known = true):aP 1 off id w (some (.box (c :: cs))) kw = A9 (c :: cs) off w fun l=>kw .any [(id,some (.box l))]:=by
 have hc:w.cells = [w]:=by cases w <;> first | rfl | cases hw
 rw [ZR]
 simp only [aP,hc,hk]
 by_cases h:off + 1 <= (c :: cs).length
 ·rw [if_pos h,if_pos ⟨rfl,h,trivial⟩]
 ·rw [if_neg h,if_neg (fun q=>h q.2.1)]
theorem aD3 (off id:Nat) (x:D) (c:V) (cs:List V):aP 1 off id (.d x) (some (.box (c :: cs))) kw = A9 (c :: cs) off (.d x) fun l=>kw .any [(id,some (.box l))]:=IM off id _ c cs rfl rfl
theorem ZI (off id:Nat) (c:V) (cs:List V):aP 1 off id .nil (some (.box (c :: cs))) kw = A9 (c :: cs) off .nil fun l=>kw .any [(id,some (.box l))]:=IM off id _ c cs rfl rfl
theorem YR (off id i v:Nat) (c:V) (cs:List V):aP 1 off id (.own i v) (some (.box (c :: cs))) kw = A9 (c :: cs) off (.own i v) fun l=>kw .any [(id,some (.box l))]:=IM off id _ c cs rfl rfl
theorem ZX (off id i v:Nat) (c:V) (cs:List V):aP 1 off id (.ptr i v) (some (.box (c :: cs))) kw = A9 (c :: cs) off (.ptr i v) fun l=>kw .any [(id,some (.box l))]:=IM off id _ c cs rfl rfl
def A7 (cs:List V) (n:Nat) (x:Option β):Option β:=if cs.length = n then x else none
theorem aLA (x:Option β):A7 [] 0 x = x:=rfl
theorem aOt (c:V) (cs:List V) (n:Nat) (x:Option β):A7 (c :: cs) (n + 1) x = A7 cs n x:=by
 unfold A7
 simp only [List.length_cons]
 by_cases h:cs.length = n
 ·rw [if_pos h,if_pos (by omega)]
 ·rw [if_neg h,if_neg (by omega)]
theorem WI (size off id:Nat) (ws:List V) (c:V) (cs:List V):aP size off id (.agg ws) (some (.box (c :: cs))) kw = A7 ws size (kC (c :: cs) off ws fun l=>kw .any [(id,some (.box l))]):=by
 unfold A7 kC
 show (if ws.length = size ∧ off + size <= (c :: cs).length ∧ V.known (.agg ws) = true then kw .any [(id,some (.box (hZ (c :: cs) off ws)))] else none) = _
 by_cases h:ws.length = size
 ·subst h
  rw [if_pos rfl]
  by_cases h:off + ws.length <= (c :: cs).length
  ·rw [if_pos h,if_pos ⟨rfl,h,rfl⟩]
  ·rw [if_neg h,if_neg (fun q=>h q.2.1)]
 ·rw [if_neg h,if_neg (fun q=>h q.1)]
theorem TF {α:Type}:∀ (l m:List α),l.length = m.length->hZ l 0 m = m
 | [],[],_=>rfl
 | _ :: l,x :: m,h=>by
  simp only [hZ]
  rw [TF l m (by simpa using h)]
 | [],_ :: _,h=>by simp at h
 | _ :: _,[],h=>by simp at h
theorem oE (n id:Nat) (ds:List D) (hd:ds.length = n) (cs:List V) (hc:cs.length = n):aP n 0 id (kM ds) (some (.box cs)) kw = kw .any [(id,some (.box (aQ ds)))]:=by
 have e:(aQ ds).length = n:=by rw [← hd]; simp [aQ]
 show (if (aQ ds).length = n ∧ 0 + n <= cs.length ∧ V.known (kM ds) = true then kw .any [(id,some (.box (hZ cs 0 (aQ ds))))] else none) = _
 rw [if_pos ⟨e,by omega,rfl⟩,TF _ _ (by rw [hc,e])]
def aKX (v:V) (bl:List (Nat × Option aI)) (k:V->Option β):Option β:=match v with
 | .ptr id off=>k (.ptr id off)
 | .d (.ptr row off)=>k (.d (.ptr row off))
 | .orow id ver i off=>aZ bl id fun b=>match b with
  | some (.rows v _ _ _)=>if ver = v then k (.orow id ver i off) else none
  | _=>none
 | _=>none
theorem UK (x:bD):rE T d (.nilCheck x) fr bl k kw = bN fr x fun v=>aKX v bl k:=by
 unfold rE bN
 simp only [b8]
 generalize bC (lk fr .any) x = v
 cases v with
 | d x=>cases x <;> rfl
 | orow id ver i off =>
  simp only [aKX,aZ]
  generalize lk bl none id = b
  cases b with
  | none=>rfl
  | some b=>cases b with
   | rows v e s rows=>simp only; by_cases h:ver = v <;> simp [h]
   | _=>rfl
 | _=>rfl
theorem aRh (id off:Nat):aKX (.ptr id off) bl k = k (.ptr id off):=rfl
theorem aQJ (row:List D) (off:Nat):aKX (.d (.ptr row off)) bl k = k (.d (.ptr row off)):=rfl
def W2 (id ver i off:Nat) (b:Option aI) (k:V->Option β):Option β:=match b with
 | some (.rows v _ _ _)=>if ver = v then k (.orow id ver i off) else none
 | _=>none
theorem aQ1 (id ver i off:Nat):aKX (.orow id ver i off) bl k = aZ bl id fun b=>W2 id ver i off b k:=rfl
theorem aLu (id ver i off e s:Nat) (rows:List (List D)):W2 id ver i off (some (.rows ver e s rows)) k = k (.orow id ver i off):=if_pos rfl
def faK (off:Nat) (v:V) (bl:List (Nat × Option aI)) (k:V->Option β):Option β:=match v with
 | .ptr id o=>k (.ptr id (o + off))
 | .d (.ptr row o)=>k (.d (.ptr row (o + off)))
 | .orow id ver i o=>aZ bl id fun b=>W2 id ver i (o + off) b k
 | _=>none
theorem R7 (off:Nat) (x:bD):rE T d (.fieldAddr off x) fr bl k kw = bN fr x fun v=>faK off v bl k:=by
 unfold rE bN
 simp only [b8]
 generalize bC (lk fr .any) x = v
 cases v with
 | d x=>cases x <;> rfl
 | orow id ver i o =>
  simp only [faK,aZ]
  generalize lk bl none id = b
  cases b with
  | none=>rfl
  | some b=>cases b with
   | rows v e s rows=>simp only [W2]; by_cases h:ver = v <;> simp [h]
   | _=>rfl
 | _=>rfl
theorem aSM (off id o:Nat):faK off (.ptr id o) bl k = k (.ptr id (o + off)):=rfl
theorem aR6 (off:Nat) (row:List D) (o:Nat):faK off (.d (.ptr row o)) bl k = k (.d (.ptr row (o + off))):=rfl
theorem aSn (off id ver i o:Nat):faK off (.orow id ver i o) bl k = aZ bl id fun b=>W2 id ver i (o + off) b k:=rfl
def qX (c:Nat) (op:BinOp) (a b:V) (k:V->Option β):Option β:=(A5 c op a b).bind fun x=>k (.d x)
theorem aLD (c:Nat) (op:BinOp) (x y:bD):rE T d (.bin c op x y) fr bl k kw = bN fr x fun a=>bN fr y fun b=>qX c op a b k:=by
 rw [iK]
 exact PV _
section
variable (kd:IntKind) (x y:Int)
theorem aIj:qX 0 .add (.d (.int kd x)) (.d (.int kd y)) k = k (.d (.int kd (IntKind.wrap kd (x + y)))):=by simp [qX,A5,oU]
theorem aI3:qX 0 .sub (.d (.int kd x)) (.d (.int kd y)) k = k (.d (.int kd (IntKind.wrap kd (x - y)))):=by simp [qX,A5,oU]
theorem aKR:qX 0 .mul (.d (.int kd x)) (.d (.int kd y)) k = k (.d (.int kd (IntKind.wrap kd (x * y)))):=by simp [qX,A5,oU]
theorem aJD:qX 0 .quo (.d (.int kd x)) (.d (.int kd y)) k = if y = 0 then none else k (.d (.int kd (IntKind.wrap kd (x.tdiv y)))):=by
 simp only [qX,A5,oU,if_true]; split <;> rfl
theorem aIy:qX 0 .rem (.d (.int kd x)) (.d (.int kd y)) k = if y = 0 then none else k (.d (.int kd (x.tmod y))):=by
 simp only [qX,A5,oU,if_true]; split <;> rfl
theorem aJM:qX 0 .eql (.d (.int kd x)) (.d (.int kd y)) k = k (.d (.bool (x == y))):=by simp [qX,A5,oU]
theorem aI4:qX 0 .neq (.d (.int kd x)) (.d (.int kd y)) k = k (.d (.bool (x != y))):=by simp [qX,A5,oU]
theorem aK5:qX 0 .lss (.d (.int kd x)) (.d (.int kd y)) k = k (.d (.bool (decide (x < y)))):=by simp [qX,A5,oU]
theorem aLb:qX 0 .leq (.d (.int kd x)) (.d (.int kd y)) k = k (.d (.bool (decide (x <= y)))):=by simp [qX,A5,oU]
theorem aHc:qX 0 .gtr (.d (.int kd x)) (.d (.int kd y)) k = k (.d (.bool (decide (x > y)))):=by simp [qX,A5,oU]
theorem aKP:qX 0 .geq (.d (.int kd x)) (.d (.int kd y)) k = k (.d (.bool (decide (x ≥ y)))):=by simp [qX,A5,oU]
theorem aKx:qX 0 .and (.d (.int kd x)) (.d (.int kd y)) k = k (.d (.int kd (IntKind.wrap kd (BitVec.ofInt (IntKind.bits kd) x &&& BitVec.ofInt (IntKind.bits kd) y).toNat))):=by simp [qX,A5,oU]
theorem aML:qX 0 .or (.d (.int kd x)) (.d (.int kd y)) k = k (.d (.int kd (IntKind.wrap kd (BitVec.ofInt (IntKind.bits kd) x ||| BitVec.ofInt (IntKind.bits kd) y).toNat))):=by simp [qX,A5,oU]
theorem aJz:qX 0 .xor (.d (.int kd x)) (.d (.int kd y)) k = k (.d (.int kd (IntKind.wrap kd (BitVec.ofInt (IntKind.bits kd) x ^^^ BitVec.ofInt (IntKind.bits kd) y).toNat))):=by simp [qX,A5,oU]
end
section
variable (x y:ByteArray)
theorem aDT:qX 0 .eql (.d (.str x)) (.d (.str y)) k = k (.d (.bool (x.toList == y.toList))):=rfl
theorem aF2:qX 0 .neq (.d (.str x)) (.d (.str y)) k = k (.d (.bool !(x.toList == y.toList))):=rfl
theorem aEr:qX 0 .lss (.d (.str x)) (.d (.str y)) k = k (.d (.bool (Op.bytesLess x.toList y.toList))):=rfl
theorem aGE:qX 0 .leq (.d (.str x)) (.d (.str y)) k = k (.d (.bool (Op.bytesLess x.toList y.toList || x.toList == y.toList))):=rfl
theorem aFp:qX 0 .gtr (.d (.str x)) (.d (.str y)) k = k (.d (.bool !(Op.bytesLess x.toList y.toList || x.toList == y.toList))):=rfl
theorem aEs:qX 0 .geq (.d (.str x)) (.d (.str y)) k = k (.d (.bool !(Op.bytesLess x.toList y.toList))):=rfl
end
theorem aEC (x y:Bool):qX 1 .eql (.d (.bool x)) (.d (.bool y)) k = k (.d (.bool (x == y))):=rfl
theorem aF7 (x y:Bool):qX 1 .neq (.d (.bool x)) (.d (.bool y)) k = k (.d (.bool !(x == y))):=rfl
def RL (o:Option D) (k:V->Option β):Option β:=o.bind fun x=>k (.d x)
theorem BG {o o' : Option D} {k:V->Option β} (h:o = o'):RL o k = RL o' k:=by rw [h]
theorem aD8 (x:D):RL (some x) k = k (.d x):=rfl
theorem aF8:RL none k = none:=rfl
theorem aNX (ks:List Nat) (neg:Bool) (x y:bD):rE T d (.eqS ks neg x y) fr bl k kw = bN fr x fun a=>bN fr y fun b=>RL (eqV ks neg a b) k:=by
 rw [iK]
 exact PV _
def kZ:List Nat->List V->List V->(Bool->Option β)->Option β:=fun ks xs ys k=>match dN ks xs ys with
 | some b=>k b
 | none=>none
def SM (ks:List Nat) (neg:Bool) (a b:V) (k:V->Option β):Option β:=match a,b with
 | .agg xs,.agg ys=>kZ ks xs ys fun b=>k (.d (.bool (if neg then !b else b)))
 | _,_=>none
theorem aLG (ks:List Nat) (neg:Bool) (x y:bD):rE T d (.eqS ks neg x y) fr bl k kw = bN fr x fun a=>bN fr y fun b=>SM ks neg a b k:=by
 rw [aNX]
 unfold bN
 generalize bC (lk fr .any) x = a
 generalize bC (lk fr .any) y = b
 cases a with
 | agg xs=>cases b with
  | agg ys =>
   simp only [eqV,SM,kZ,RL]
   cases dN ks xs ys <;> rfl
  | _=>rfl
 | _=>cases b <;> rfl
section
variable {k:V->Option β}
theorem aJ0 (ks:List Nat) (xs ys:List V):SM ks true (.agg xs) (.agg ys) k = kZ ks xs ys fun b=>k (.d (.bool !b)):=rfl
theorem aKu (ks:List Nat) (xs ys:List V):SM ks false (.agg xs) (.agg ys) k = kZ ks xs ys fun b=>k (.d (.bool b)):=rfl
theorem aKK (ks:List Nat) (xs:List D) (ys:List V):SM ks true (kM xs) (.agg ys) k = kZ ks (aQ xs) ys fun b=>k (.d (.bool !b)):=rfl
theorem aJp (ks:List Nat) (xs:List D) (ys:List V):SM ks false (kM xs) (.agg ys) k = kZ ks (aQ xs) ys fun b=>k (.d (.bool b)):=rfl
theorem aHJ (ks:List Nat) (xs:List V) (ys:List D):SM ks true (.agg xs) (kM ys) k = kZ ks xs (aQ ys) fun b=>k (.d (.bool !b)):=rfl
theorem aG9 (ks:List Nat) (xs:List V) (ys:List D):SM ks false (.agg xs) (kM ys) k = kZ ks xs (aQ ys) fun b=>k (.d (.bool b)):=rfl
theorem aJa (ks:List Nat) (xs ys:List D):SM ks true (kM xs) (kM ys) k = kZ ks (aQ xs) (aQ ys) fun b=>k (.d (.bool !b)):=rfl
theorem aLh (ks:List Nat) (xs ys:List D):SM ks false (kM xs) (kM ys) k = kZ ks (aQ xs) (aQ ys) fun b=>k (.d (.bool b)):=rfl
end
section
variable {k:Bool->Option β}
theorem aLC (kd:IntKind) (x y:Int):kZ [0] [.d (.int kd x)] [.d (.int kd y)] k = k (x == y):=by simp [kZ,dN,v7]
theorem aN1 (x y:Bool):kZ [1] [.d (.bool x)] [.d (.bool y)] k = k (x == y):=by simp [kZ,dN,v7]
theorem aMg (x y:ByteArray):kZ [2] [.d (.str x)] [.d (.str y)] k = k (x == y):=by simp [kZ,dN,v7]
theorem aP8 (kd:IntKind) (x y:Int) (c:Nat) (ks:List Nat) (xs ys:List V):kZ (0 :: c :: ks) (.d (.int kd x) :: xs) (.d (.int kd y) :: ys) k = kZ (c :: ks) xs ys fun b=>k ((x == y) && b):=by
 simp only [kZ,dN,v7,if_true]
 cases dN (c :: ks) xs ys <;> rfl
theorem aQd (x y:Bool) (c:Nat) (ks:List Nat) (xs ys:List V):kZ (1 :: c :: ks) (.d (.bool x) :: xs) (.d (.bool y) :: ys) k = kZ (c :: ks) xs ys fun b=>k ((x == y) && b):=by
 simp only [kZ,dN,v7]
 cases dN (c :: ks) xs ys <;> rfl
theorem aPS (x y:ByteArray) (c:Nat) (ks:List Nat) (xs ys:List V):kZ (2 :: c :: ks) (.d (.str x) :: xs) (.d (.str y) :: ys) k = kZ (c :: ks) xs ys fun b=>k ((x == y) && b):=by
 simp only [kZ,dN,v7]
 cases dN (c :: ks) xs ys <;> rfl
end
def aI6 (kd:IntKind) (x:Int):List V->(V->Option β)->Option β:=fun l k=>RL (aAC kd x l) k
def aIJ (kd:IntKind) (x:Int):List V->(V->Option β)->Option β:=fun l k=>RL (aAt kd x l) k
def aPn (l:List V) (k:V->Option β):Option β:=RL (aMB l) k
def aPm (l:List V) (k:V->Option β):Option β:=RL (aLZ l) k
theorem aO2 (l:List bD):rE T d (.max l) fr bl k kw = FT fr l fun vs=>aPn vs k:=by
 rw [iK,LM]
 exact PV _
theorem aNj (l:List bD):rE T d (.min l) fr bl k kw = FT fr l fun vs=>aPm vs k:=by
 rw [iK,LM]
 exact PV _
section
variable {k:V->Option β}
theorem aMk (kd:IntKind) (x:Int) (l:List V):aPn (.d (.int kd x) :: l) k = aI6 kd x l k:=rfl
theorem aM8 (kd:IntKind) (x:Int) (l:List V):aPm (.d (.int kd x) :: l) k = aIJ kd x l k:=rfl
theorem aJw (kd:IntKind) (x:Int):aI6 kd x [] k = k (.d (.int kd x)):=rfl
theorem aJL (kd:IntKind) (x:Int):aIJ kd x [] k = k (.d (.int kd x)):=rfl
theorem aFc (kd:IntKind) (x y:Int) (l:List V):aI6 kd x (.d (.int kd y) :: l) k = aI6 kd (if y > x then y else x) l k:=by simp [aI6,aAC]
theorem aFS (kd:IntKind) (x y:Int) (l:List V):aIJ kd x (.d (.int kd y) :: l) k = aIJ kd (if y < x then y else x) l k:=by simp [aIJ,aAt]
end
def unK (op:UnOp) (v:V) (k:V->Option β):Option β:=RL (unV op v) k
theorem aQ4 (op:UnOp) (x:bD):rE T d (.un op x) fr bl k kw = bN fr x fun a=>unK op a k:=by
 rw [iK]
 exact PV _
theorem aNA (b:Bool):unK .not (.d (.bool b)) k = k (.d (.bool !b)):=rfl
theorem aN3 (kd:IntKind) (n:Int):unK .neg (.d (.int kd n)) k = k (.d (.int kd (IntKind.wrap kd (0 - n)))):=rfl
def aPp (kd:IntKind) (v:V) (k:V->Option β):Option β:=match v with
 | .d (.int _ n)=>k (.d (.int kd (IntKind.wrap kd n)))
 | _=>none
theorem aKe (kd:IntKind) (x:bD):rE T d (.conv kd x) fr bl k kw = bN fr x fun a=>aPp kd a k:=by
 unfold rE bN
 simp only [b8]
 generalize bC (lk fr .any) x = v
 cases v with
 | d x=>cases x <;> rfl
 | _=>rfl
theorem aLs (kd kd' : IntKind) (n:Int):aPp kd (.d (.int kd' n)) k = k (.d (.int kd (IntKind.wrap kd n))):=rfl
def V5 (s:ByteArray):List Int:=s.data.toList.map fun b=>(b.toNat:Int)
def aBd (v:V) (k:V->Option β):Option β:=match v with
 | .d (.str s)=>k (.d (.sl (cM (cK .u8) (V5 s))))
 | _=>none
theorem aGF (x:bD):rE T d (.bytes x) fr bl k kw = bN fr x fun a=>aBd a k:=by
 unfold rE bN
 simp only [b8]
 generalize bC (lk fr .any) x = v
 cases v with
 | d x=>cases x with
  | str s =>
   have:(s.data.toList.map fun b=>[D.int .u8 (b.toNat:Int)]) = cM (cK .u8) (V5 s):=by
    simp only [cM,V5,List.map_map]
    rfl
   simp only [aBd,this]
  | _=>rfl
 | _=>rfl
theorem aJx (s:ByteArray):aBd (.d (.str s)) k = k (.d (.sl (cM (cK .u8) (V5 s)))):=rfl
def JX (v:V) (bl:List (Nat × Option aI)) (k:List (List D)->Option β):Option β:=(fM (lk bl none) v).bind k
def G6 (ver:Nat) (b:Option aI) (k:List (List D)->Option β):Option β:=(aJj ver b).bind k
theorem aHY (rows:List (List D)) (k:List (List D)->Option β):JX (.d (.sl rows)) bl k = k rows:=rfl
theorem aFh (k:List (List D)->Option β):JX .nil bl k = k []:=rfl
theorem T2 (id ver:Nat) (k:List (List D)->Option β):JX (.own id ver) bl k = aZ bl id fun b=>G6 ver b k:=by
 unfold JX aZ G6
 simp only [fM]
 generalize lk bl none id = b
 cases b with
 | none=>rfl
 | some b=>cases b <;> rfl
theorem O4 (v e s:Nat) (rows:List (List D)) (k:List (List D)->Option β):G6 v (some (.rows v e s rows)) k = k rows:=by simp [G6,aJj]
theorem OX (v:Nat) (rows:List (List D)) (k:List (List D)->Option β):G6 v (some (.froz v rows)) k = k rows:=by simp [G6,aJj]
theorem aMK (x:bD):rE T d (.len x) fr bl k kw = bN fr x fun a=>JX a bl fun rows=>k (.d (.int .i64 rows.length)):=by
 unfold rE bN JX
 simp only [b8]
 cases fM (lk bl none) (bC (lk fr .any) x) <;> rfl
def aPD (v:V) (k:V->Option β):Option β:=match v with
 | .d (.str s)=>k (.d (.int .i64 s.size))
 | _=>none
theorem aJF (x:bD):rE T d (.lenS x) fr bl k kw = bN fr x fun a=>aPD a k:=by
 unfold rE bN
 simp only [b8]
 generalize bC (lk fr .any) x = v
 cases v with
 | d x=>cases x <;> rfl
 | _=>rfl
theorem aMN (s:ByteArray):aPD (.d (.str s)) k = k (.d (.int .i64 s.size)):=rfl
def KS (off size:Nat) (isAgg:Bool) (v:V) (k:V->Option β):Option β:=match v with
 | .agg cs=>if isAgg = true then vC cs off size fun l=>k (.agg l) else B8 cs off k
 | _=>none
theorem aGc (off size:Nat) (isAgg:Bool) (x:bD):rE T d (.field off size isAgg x) fr bl k kw = bN fr x fun v=>KS off size isAgg v k:=by
 unfold rE bN
 simp only [b8]
 generalize bC (lk fr .any) x = v
 cases v with
 | agg cs =>
  cases isAgg with
  | true =>
   simp only [KS,vC,if_true]
   by_cases h:off + size <= cs.length
   ·rw [if_pos h,if_pos h]
   ·rw [if_neg h,if_neg h]
  | false=>simp only [KS,LI,Bool.false_eq_true,if_false]; cases cs[off]? <;> rfl
 | _=>rfl
theorem aIx (off size:Nat) (cs:List V):KS off size false (.agg cs) k = B8 cs off k:=rfl
theorem aKM (off size:Nat) (cs:List V):KS off size true (.agg cs) k = vC cs off size fun l=>k (.agg l):=rfl
theorem aGs (off size:Nat) (ds:List D):KS off size false (kM ds) k = eW ds off fun x=>k (.d x):=by
 show B8 (aQ ds) off k = _
 rw [aC8]
theorem aD6 (off size:Nat) (ds:List D):KS off size true (kM ds) k = yQ ds off size fun l=>k (kM l):=by
 show vC (aQ ds) off size (fun l=>k (.agg l)) = _
 rw [UN]; rfl
def sM (ds:List D) (n:Nat) (x:Option β):Option β:=if ds.length = n then x else none
def aIC (size:Nat) (x i:V) (bl:List (Nat × Option aI)) (k:V->Option β):Option β:=FD (V8 size x i (lk bl none)) k fun _ _=>none
theorem aEg {size:Nat} {x i:V} {b:Nat->Option aI} {kw' : V->List (Nat × Option aI)->Option β}:FD (V8 size x i b) k kw = FD (V8 size x i b) k kw':=by
 have:∀ r,V8 size x i b = some r->r.2 = []:=by
  intro r
  unfold V8
  intro e
  repeat' split at e
  all_goals first | cases e; rfl | cases e
 cases h:V8 size x i b with
 | none=>rfl
 | some r=>obtain ⟨v,wr⟩:=r; have:=this _ h; dsimp only at this; subst this; rfl
theorem R9 (size:Nat) (x i:bD):rE T d (.indexAddr size x i) fr bl k kw = bN fr x fun a=>bN fr i fun b=>aIC size a b bl k:=by
 rw [iK,SN]
 unfold bN aIC
 exact aEg
theorem aN7 {α:Type} (size:Nat) (c:α->List D) (xs:List α) (kd:IntKind) (n:Int):aIC size (.d (.sl (cM c xs))) (.d (.int kd n)) bl k = (at? xs n).bind fun x=>sM (c x) size (k (.d (.ptr (c x) 0))):=by
 unfold aIC
 rw [C8,aNI]
 rfl
def WW (size id ver:Nat) (n:Int) (b:Option aI) (k:V->Option β):Option β:=FD (aHK size id ver n b) k fun _ _=>none
theorem aI5 (size id ver:Nat) (kd:IntKind) (n:Int):aIC size (.own id ver) (.d (.int kd n)) bl k = aZ bl id fun b=>WW size id ver n b k:=rfl
theorem aCK {α:Type} (size id v e:Nat) (n:Int) (c:α->List D) (xs:List α):WW size id v n (some (.rows v e size (cM c xs))) k = if 0 <= n ∧ n.toNat < xs.length then k (.orow id v n.toNat 0) else none:=by
 unfold WW
 rw [C8,aEa,if_pos rfl,if_pos rfl,vK]
theorem aBT {α:Type} (size id v:Nat) (n:Int) (c:α->List D) (xs:List α):WW size id v n (some (.froz v (cM c xs))) k = (at? xs n).bind fun x=>sM (c x) size (k (.d (.ptr (c x) 0))):=by
 unfold WW
 rw [C8,aGV,if_pos rfl]
 rfl
def aDo (x i:V) (k:V->Option β):Option β:=GB (HD x i) fun v _=>k v
theorem aF6 (x i:bD):rE T d (.index x i) fr bl k kw = bN fr x fun a=>bN fr i fun b=>aDo a b k:=by
 rw [iK,aGB]
 unfold bN aDo
 generalize bC (lk fr .any) x = a
 generalize bC (lk fr .any) i = b
 have:∀ r,HD a b = some r->r.2 = []:=by
  intro r
  unfold HD
  intro e
  repeat' split at e
  all_goals first | cases e; rfl | cases e
 show _ = GB (HD a b) fun v _=>k v
 cases h:HD a b with
 | none=>rfl
 | some r=>obtain ⟨v,wr⟩:=r; have:=this _ h; dsimp only at this; subst this; rfl
theorem aNE (s:ByteArray) (kd:IntKind) (n:Int):aDo (.d (.str s)) (.d (.int kd n)) k = (sAt s n).bind fun b=>k (.d (.int .u8 b)):=by
 unfold aDo
 rw [aJn]
def aBG (fr:List (Nat × V)) (o:Option bD) (k:Option V->Option β):Option β:=match o with
 | none=>k none
 | some x=>bN fr x fun v=>k (some v)
theorem aQN (k:Option V->Option β):aBG fr none k = k none:=rfl
theorem aP4 (x:bD) (k:Option V->Option β):aBG fr (some x) k = bN fr x fun v=>k (some v):=rfl
def D8 (size:Nat) (x:V) (lo hi:Option V) (bl:List (Nat × Option aI)) (k:V->Option β) (kw:V->List (Nat × Option aI)->Option β):Option β:=FD (wN (lk bl none) size x lo hi) k kw
theorem aGT (size:Nat) (x:bD) (lo hi:Option bD):rE T d (.slice size x lo hi) fr bl k kw = bN fr x fun a=>aBG fr lo fun l=>aBG fr hi fun h=>D8 size a l h bl k kw:=by
 rw [iK,aEJ]
 cases lo <;> cases hi <;> rfl
section
variable {α:Type} (size:Nat) (c:α->List D) (xs:List α) (hs:sized size (cM c xs) = true)
include hs
theorem IF {lo hi:Option V} {l h:Int} (hl:CK lo 0 = some l) (hh:CK hi (xs.length:Int) = some h):D8 size (.d (.sl (cM c xs))) lo hi bl k kw = if i8 xs.length l h then k (.d (.sl (cM c (kU xs l h)))) else none:=by
 unfold D8
 rw [C8,aGf _ size c xs lo hi l h hl hh hs]
theorem aFo:D8 size (.d (.sl (cM c xs))) none none bl k kw = if i8 xs.length 0 (xs.length:Int) then k (.d (.sl (cM c (kU xs 0 (xs.length:Int))))) else none:=IF size c xs hs rfl rfl
theorem aFa (kd:IntKind) (l:Int):D8 size (.d (.sl (cM c xs))) (some (.d (.int kd l))) none bl k kw = if i8 xs.length l (xs.length:Int) then k (.d (.sl (cM c (kU xs l (xs.length:Int))))) else none:=IF size c xs hs rfl rfl
theorem aFB (kd:IntKind) (h:Int):D8 size (.d (.sl (cM c xs))) none (some (.d (.int kd h))) bl k kw = if i8 xs.length 0 h then k (.d (.sl (cM c (kU xs 0 h)))) else none:=IF size c xs hs rfl rfl
theorem aG0 (kd kd' : IntKind) (l h:Int):D8 size (.d (.sl (cM c xs))) (some (.d (.int kd l))) (some (.d (.int kd' h))) bl k kw = if i8 xs.length l h then k (.d (.sl (cM c (kU xs l h)))) else none:=IF size c xs hs rfl rfl
end
def R4 (e size bytes d:Nat) (x y:V) (bl:List (Nat × Option aI)) (kw:V->List (Nat × Option aI)->Option β):Option β:=JX y bl fun new =>
 if sized size new = true then
   match x with
   | .nil=>aZ bl d fun b=>fL b (if new.length * bytes <= 140737488355328 then kw (.own d 0) [(d,some (.rows 0 e size new))] else none)
   | .own id ver=>aZ bl id fun b=>match b with
    | some (.rows v e' size' rows)=>if ver = v ∧ e' = e ∧ size' = size ∧ (rows.length + new.length) * bytes <= 140737488355328 then kw (.own id (ver + 1)) [(id,some (.rows (ver + 1) e size (rows ++ new)))] else none
    | _=>none
   | _=>none
   else none
theorem aCj (e size bytes:Nat) (x y:bD):rE T d (.append e size bytes x y) fr bl k kw = bN fr x fun a=>bN fr y fun b=>R4 e size bytes d a b bl kw:=by
 unfold rE bN R4 JX aZ fL
 simp only [b8]
 generalize bC (lk fr .any) x = v
 cases fM (lk bl none) (bC (lk fr .any) y) with
 | none=>rfl
 | some new =>
  simp only [Option.bind_some]
  by_cases hs:sized size new = true
  ·rw [if_pos hs,if_pos hs]
   cases v with
   | nil =>
    simp only
    cases lk bl none d with
    | none =>
     simp only
     by_cases h:new.length * bytes <= 140737488355328
     ·rw [if_pos h,if_pos h]
     ·rw [if_neg h,if_neg h]
    | some b=>rfl
   | own id ver =>
    simp only
    generalize lk bl none id = b
    cases b with
    | none=>rfl
    | some b=>cases b with
     | rows v e' size' rows =>
      simp only
      by_cases h:ver = v ∧ e' = e ∧ size' = size ∧ (rows.length + new.length) * bytes <= 140737488355328
      ·rw [if_pos h,if_pos h]
      ·rw [if_neg h,if_neg h]
     | _=>rfl
   | _=>rfl
  ·rw [if_neg hs,if_neg hs]
def QL {α:Type} (e size bytes d:Nat) (x:V) (c:α->List D) (ys:List α) (bl:List (Nat × Option aI)) (kw:V->List (Nat × Option aI)->Option β):Option β:=match x with
   | .nil=>aZ bl d fun b=>fL b (if ys.length * bytes <= 140737488355328 then kw (.own d 0) [(d,some (.rows 0 e size (cM c ys)))] else none)
   | .own id ver=>aZ bl id fun b=>match b with
    | some (.rows v e' size' rows)=>if ver = v ∧ e' = e ∧ size' = size ∧ (rows.length + ys.length) * bytes <= 140737488355328 then kw (.own id (ver + 1)) [(id,some (.rows (ver + 1) e size (rows ++ cM c ys)))] else none
    | _=>none
   | _=>none
theorem aFC {α:Type} (e size bytes d:Nat) (x y:V) (c:α->List D) (ys:List α) (hy:∀ k' : List (List D)->Option β,JX y bl k' = k' (cM c ys)) (hs:sized size (cM c ys) = true):R4 e size bytes d x y bl kw = QL e size bytes d x c ys bl kw:=by
 unfold R4 QL
 rw [hy,if_pos hs,vK]
theorem UQ {α:Type} (e size bytes d:Nat) (x:V) (c:α->List D) (ys:List α) (hs:sized size (cM c ys) = true):R4 e size bytes d x (.d (.sl (cM c ys))) bl kw = QL e size bytes d x c ys bl kw:=aFC e size bytes d x _ c ys (fun _=>rfl) hs
def ZJ (e size bytes d:Nat) (x:V) (ver:Nat) (b:Option aI) (bl:List (Nat × Option aI)) (kw:V->List (Nat × Option aI)->Option β):Option β:=G6 ver b fun new=>R4 e size bytes d x (.d (.sl new)) bl kw
theorem aJc (e size bytes d id ver:Nat) (x:V):R4 e size bytes d x (.own id ver) bl kw = aZ bl id fun b=>ZJ e size bytes d x ver b bl kw:=by
 show R4 e size bytes d x (.own id ver) bl kw = G6 ver (lk bl none id) fun new=>R4 e size bytes d x (.d (.sl new)) bl kw
 unfold R4
 rw [T2]
 rfl
theorem aAA {α:Type} (e size bytes d v e' s' : Nat) (x:V) (c:α->List D) (ys:List α) (hs:sized size (cM c ys) = true):ZJ e size bytes d x v (some (.rows v e' s' (cM c ys))) bl kw = QL e size bytes d x c ys bl kw:=by
 unfold ZJ
 rw [O4,UQ _ _ _ _ _ _ _ hs]
theorem aCI {α:Type} (e size bytes d v:Nat) (x:V) (c:α->List D) (ys:List α) (hs:sized size (cM c ys) = true):ZJ e size bytes d x v (some (.froz v (cM c ys))) bl kw = QL e size bytes d x c ys bl kw:=by
 unfold ZJ
 rw [OX,UQ _ _ _ _ _ _ _ hs]
theorem aFk {α:Type} (e size bytes d:Nat) (c:α->List D) (ys:List α):QL e size bytes d .nil c ys bl kw = aZ bl d fun b=>fL b (if ys.length * bytes <= 140737488355328 then kw (.own d 0) [(d,some (.rows 0 e size (cM c ys)))] else none):=rfl
def aJl {α:Type} (e size bytes id ver:Nat) (c:α->List D) (ys:List α) (b:Option aI) (kw:V->List (Nat × Option aI)->Option β):Option β:=match b with
    | some (.rows v e' size' rows)=>if ver = v ∧ e' = e ∧ size' = size ∧ (rows.length + ys.length) * bytes <= 140737488355328 then kw (.own id (ver + 1)) [(id,some (.rows (ver + 1) e size (rows ++ cM c ys)))] else none
    | _=>none
theorem aEv {α:Type} (e size bytes d id ver:Nat) (c:α->List D) (ys:List α):QL e size bytes d (.own id ver) c ys bl kw = aZ bl id fun b=>aJl e size bytes id ver c ys b kw:=rfl
theorem aBI {α:Type} (e size bytes id v:Nat) (c:α->List D) (xs ys:List α):aJl e size bytes id v c ys (some (.rows v e size (cM c xs))) kw = if (xs.length + ys.length) * bytes <= 140737488355328 then kw (.own id (v + 1)) [(id,some (.rows (v + 1) e size (cM c (xs ++ ys))))] else none:=by
 simp only [aJl,true_and,vK,aDS]
def PS (e:Nat) (rows:List (List D)) (k:List (List D)->Option β):Option β:=k rows
def LU (v:V) (bl:List (Nat × Option aI)) (k:List D->List (Nat × Option aI)->Option β):Option β:=match aK (iD (lk bl none)) v.cells with
 | some row=>k row (vN (lk bl none) v)
 | none=>none
end
section
end
end
end Vm
end Go.Proofs.Ytgjcnbgfaimepaa
