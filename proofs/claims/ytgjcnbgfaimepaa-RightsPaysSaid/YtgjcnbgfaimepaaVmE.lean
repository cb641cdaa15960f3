/- The small machine's code, read from the front: what is left to do stands in a continuation. Equations by which the small machine's code is read (they are named in the proofs that a program prints). The small machine, read from the front by rewriting at the head only: every value is looked up before it is used. -/
import Derived.Test.YtgjcnbgfaimepaaVmD
set_option linter.unusedVariables false
set_option linter.unusedSimpArgs false
namespace Go.Proofs.Ytgjcnbgfaimepaa
namespace Vm
open Go.RowKit
section
variable {β:Type}
noncomputable def bU (T:vZ) (c:aH) (s:St) (k:Ex->St->Option β):Option β:=(ev T c s).bind fun p=>k p.1 p.2
noncomputable def sZ (T:vZ) (l:List aR) (s:St) (k:St->Option β):Option β:=(iJ (call T) l s).bind k
noncomputable def aOF (T:vZ) (l:List aR) (ps:List (Nat × Nat)) (s:St) (k:St->Option β):Option β:=(fD (call T) l (some ps) s).bind k
def GM (r:JZ) (k:V->List (Nat × Option aJ)->Option β):Option β:=match r with
 | some (v,wr)=>k v wr
 | none=>none
def LV (v:V) (x y:Option β):Option β:=match v with
 | .d (.bool b)=>if b = true then x else y
 | _=>none
def aOd (k1:St->Option β) (k:Ex->St->Option β):Ex->St->Option β
 | .normal,s=>k1 s
 | e,s=>k e s
def QO (id:Nat) (k:Ex->St->Option β):Ex->St->Option β
 | .exit id',s=>if id' = id then k .normal s else k (.exit id') s
 | e,s=>k e s
def Z6 (m:sT) (k:Ex->St->Option β):Ex->St->Option β
 | .normal,s=>k .normal (m.app s)
 | e,s=>k e s
theorem yZ {v v' : V} {x y:Option β} (h:v = v'):LV v x y = LV v' x y:=by rw [h]
theorem aFz (v:V) (wr:List (Nat × Option aJ)) (k:V->List (Nat × Option aJ)->Option β):GM (some (v,wr)) k = k v wr:=rfl
theorem aBt (b:Bool) (x y:Option β):LV (.d (.bool b)) x y = if b = true then x else y:=rfl
variable {T:vZ} {k:Ex->St->Option β}
theorem aIZ (s:St):bU T .skip s k = k .normal s:=by unfold bU; rw [aM6]; rfl
theorem aIP (id:Nat) (s:St):bU T (.exit id) s k = k (.exit id) s:=by unfold bU; rw [aMt]; rfl
theorem aMj (s:St):bU T .ret s k = k .ret s:=by unfold bU; rw [aRR]; rfl
theorem aBu (l:List aR) (s:St):bU T (.region l none) s k = sZ T l s (k .normal):=by
 unfold bU sZ
 rw [UF]
 simp only [fD]
 cases iJ (call T) l s <;> rfl
theorem aH4 (l:List aR) (ps:List (Nat × Nat)) (s:St):bU T (.region l (some ps)) s k = aOF T l ps s (k .normal):=by
 unfold bU aOF
 rw [UF]
 cases fD (call T) l (some ps) s <;> rfl
theorem aPt (a b:aH) (s:St):bU T (.seq a b) s k = bU T a s (aOd (fun s'=>bU T b s' k) k):=by
 unfold bU
 rw [aRW]
 cases ev T a s with
 | none=>rfl
 | some r =>
  obtain ⟨e,s'⟩:=r
  cases e <;> rfl
theorem aK7 (c:bL) (a b:aH) (s:St):bU T (.cond c a b) s k = LV (bJ s.get c) (bU T a s k) (bU T b s k):=by
 unfold bU
 rw [aOO]
 generalize bJ s.get c = v
 cases v with
 | d x=>cases x with
  | bool b=>cases b <;> rfl
  | _=>rfl
 | _=>rfl
theorem aG8 (id:Nat) (a:aH) (s:St):bU T (.block id a) s k = bU T a s (QO id k):=by
 unfold bU
 rw [aHX]
 cases ev T a s with
 | none=>rfl
 | some r =>
  obtain ⟨e,s'⟩:=r
  cases e with
  | normal=>rfl
  | exit i =>
   simp only [Option.bind_some,QO]
   by_cases h:i = id
   ·simp [h]
   ·simp [h]
  | ret=>rfl
theorem aOk (m:sT) (a:aH) (s:St):bU T (.pre m a) s k = bU T a (m.app s) k:=rfl
theorem aLL (m:sT) (a:aH) (s:St):bU T (.post a m) s k = bU T a s (Z6 m k):=by
 unfold bU
 rw [aMA]
 cases ev T a s with
 | none=>rfl
 | some r =>
  obtain ⟨e,s'⟩:=r
  cases e <;> rfl
theorem bA {S X:Type} {step:S->Option (S ⊕ X)} {c:aH} (enc:S->St) (out:X->Ex × St) (hout:∀ x s,out x ≠ (.normal,s))
  (h:∀ s,bU T c (enc s) (fun e s'=>some (e,s')) = cJ enc out (step s)) (s:S) :
  bU T (.loop c) (enc s) k = (dK step s).bind fun x=>k (out x).1 (out x).2:=by
 unfold bU
 rw [aLz enc out hout (fun s=>by
  have:=h s
  unfold bU at this
  rw [← this]
  cases ev T c (enc s) <;> rfl) s]
 cases dK step s <;> rfl
theorem aPa (ops:List aR) (args:List bL) (dst:Option Nat) (f:Nat) (body:aH) (res:List jW) (id:Nat) (slots:List Nat) (s:St) :
  bU T (.inl ops args dst f body res id slots) s k = sZ T ops s fun s1=>(TZ args id slots s1).bind fun s2=>bU T body s2 fun ex s3=>match ex with
   | .exit _=>none
   | _=>(lE dst res id slots s3).bind fun s4=>k .normal s4:=by
 unfold bU sZ
 rw [aQ2]
 cases iJ (call T) ops s with
 | none=>rfl
 | some s1 =>
  simp only [Option.bind_some]
  cases TZ args id slots s1 with
  | none=>rfl
  | some s2 =>
   simp only [Option.bind_some]
   cases ev T body s2 with
   | none=>rfl
   | some q =>
    obtain ⟨e,s3⟩:=q
    cases e with
    | normal=>simp only [Option.bind_some]; cases lE dst res id slots s3 <;> rfl
    | exit i=>rfl
    | ret=>simp only [Option.bind_some]; cases lE dst res id slots s3 <;> rfl
theorem aRj (k1:St->Option β) (k:Ex->St->Option β) (s:St):aOd k1 k .normal s = k1 s:=rfl
theorem aRf (k1:St->Option β) (k:Ex->St->Option β) (i:Nat) (s:St):aOd k1 k (.exit i) s = k (.exit i) s:=rfl
theorem aQQ (k1:St->Option β) (k:Ex->St->Option β) (s:St):aOd k1 k .ret s = k .ret s:=rfl
theorem aLe (id:Nat) (k:Ex->St->Option β) (s:St):QO id k .normal s = k .normal s:=rfl
theorem aKI (id:Nat) (k:Ex->St->Option β) (i:Nat) (s:St):QO id k (.exit i) s = if i = id then k .normal s else k (.exit i) s:=rfl
theorem aKk (id:Nat) (k:Ex->St->Option β) (s:St):QO id k .ret s = k .ret s:=rfl
theorem aL2 (m:sT) (k:Ex->St->Option β) (s:St):Z6 m k .normal s = k .normal (m.app s):=rfl
theorem aNq (m:sT) (k:Ex->St->Option β) (i:Nat) (s:St):Z6 m k (.exit i) s = k (.exit i) s:=rfl
theorem aMe (m:sT) (k:Ex->St->Option β) (s:St):Z6 m k .ret s = k .ret s:=rfl
theorem aI7 (s:St) (k:St->Option β):sZ T [] s k = k s:=rfl
theorem UR (d:Option Nat) (op:fF) (st:Nat) (l:List aR) (s:St) (k:St->Option β) :
  sZ T (⟨d,op,none,st⟩ :: l) s k = GM (cE (call T) st (bJ s.get) s.blk op) fun v wr=>sZ T l (s.put d v wr) k:=by
 unfold sZ GM
 simp only [iJ,y7,aR.wants]
 cases cE (call T) st (bJ s.get) s.blk op with
 | none=>rfl
 | some r=>rfl
noncomputable def lQ (T:vZ):List aR->St->List Fp->(St->List Fp->Option β)->Option β
 | [],s,fp,k=>k s fp
 | o :: l,s,fp,k=>match jC (call T) o s with
  | some (s',p)=>lQ T l s' (p :: fp) k
  | none=>none
theorem aJg (l:List aR) (s:St) (fp:List Fp) (k:St->List Fp->Option β):lQ T l s fp k = (iT (call T) l s).bind fun r=>k r.1 (r.2.reverse ++ fp):=by
 induction l generalizing s fp with
 | nil=>rfl
 | cons o l ih =>
  simp only [lQ,iT]
  cases jC (call T) o s with
  | none=>rfl
  | some q =>
   obtain ⟨s',p⟩:=q
   simp only [ih]
   cases iT (call T) l s' with
   | none=>rfl
   | some r=>obtain ⟨s'',ps⟩:=r; simp
def aNp (l:List aR) (ps:List (Nat × Nat)) (k:St->Option β) (s:St) (fp:List Fp):Option β:=if MG l fp.reverse ps = true then k s else none
theorem aPj (l:List aR) (ps:List (Nat × Nat)) (s:St) (k:St->Option β):aOF T l ps s k = lQ T l s [] (aNp l ps k):=by
 rw [aJg]
 unfold aOF
 simp only [fD]
 cases iT (call T) l s with
 | none=>rfl
 | some r =>
  obtain ⟨s',fp⟩:=r
  simp only [Option.bind_some,aNp,List.append_nil,List.reverse_reverse]
  cases h:MG l fp ps <;> simp
theorem QM (d:Option Nat) (op:fF) (st:Nat) (l:List aR) (s:St) (fp:List Fp) (k:St->List Fp->Option β) :
  lQ T (⟨d,op,none,st⟩ :: l) s fp k = GM (cE (call T) st (bJ s.get) s.blk op) fun v wr=>lQ T l (s.put d v wr) (xU ⟨d,op,none,st⟩ s.get s.blk wr :: fp) k:=by
 unfold GM
 simp only [lQ,jC,aR.wants]
 cases cE (call T) st (bJ s.get) s.blk op with
 | none=>rfl
 | some r=>rfl
theorem CY (fr:List (Nat × V)) (bl:List (Nat × Option aJ)) (t:Nat):St.get ⟨fr,bl⟩ t = lk fr .any t:=rfl
theorem NQ (fr:List (Nat × V)) (bl:List (Nat × Option aJ)) (i:Nat):St.blk ⟨fr,bl⟩ i = lk bl none i:=rfl
theorem aS6 (live keep:List Nat) (p:Nat × Nat × Nat × Nat) (l:List (Nat × Nat × Nat × Nat)) (c:List (Nat × Nat × Nat × Nat × Nat)) (ft:List Nat) (fc:List (Nat × Nat)) (s:St):sT.app ⟨live,keep,p :: l,c,ft,fc⟩ s = sT.app ⟨live,keep,l,c,ft,fc⟩ (mkT p s):=rfl
theorem aTu (live keep:List Nat) (p:Nat × Nat × Nat × Nat × Nat) (c:List (Nat × Nat × Nat × Nat × Nat)) (ft:List Nat) (fc:List (Nat × Nat)) (s:St):sT.app ⟨live,keep,[],p :: c,ft,fc⟩ s = sT.app ⟨live,keep,[],c,ft,fc⟩ (mkC p s):=rfl
theorem aRS (live keep:List Nat) (p:Nat) (ft:List Nat) (fc:List (Nat × Nat)) (s:St):sT.app ⟨live,keep,[],[],p :: ft,fc⟩ s = sT.app ⟨live,keep,[],[],ft,fc⟩ (M4 p s):=rfl
theorem aQS (live keep:List Nat) (p:Nat × Nat) (fc:List (Nat × Nat)) (s:St):sT.app ⟨live,keep,[],[],[],p :: fc⟩ s = sT.app ⟨live,keep,[],[],[],fc⟩ (frC p s):=rfl
end
end Vm
end Go.Proofs.Ytgjcnbgfaimepaa
namespace Go.Proofs.Ytgjcnbgfaimepaa
namespace Vm
open Go.RowKit
def at? {α:Type} (xs:List α) (n:Int):Option α:=if 0 <= n then xs[n.toNat]? else none
def cI (n:Int):List D:=[.int .i64 n]
def cB (b:Bool):List D:=[.bool b]
def cS (s:ByteArray):List D:=[.str s]
def cK (k:IntKind) (n:Int):List D:=[.int k n]
def cM {α:Type} (c:α->List D) (xs:List α):List (List D):=xs.map c
def cL {α:Type} (c:α->List D) (xs:List α):List D:=[.sl (cM c xs)]
def nN {α:Type} (xs:List α) (l h:Int):List α:=(xs.take h.toNat).drop l.toNat
def kN (n:Nat) (l h:Int):Prop:=0 <= l ∧ l <= h ∧ h.toNat <= n
instance (n:Nat) (l h:Int):Decidable (kN n l h):=inferInstanceAs (Decidable (_ ∧ _ ∧ _))
def sAt (s:ByteArray) (n:Int):Option Int:=if 0 <= n then s[n.toNat]?.map fun b=>(b.toNat:Int) else none
section
variable {β:Type} {T:vZ} {site:Nat} {ev:bL->V} {bl:Nat->Option aJ} (k:V->List (Nat × Option aJ)->Option β)
def W6 (size:Nat) (x i:V) (bl:Nat->Option aJ):JZ:=match i with
  | .d (.int _ n)=>match x with
   | .own id ver=>match bl id with
    | some (.rows v e sz rows)=>if ver = v ∧ sz = size ∧ 0 <= n ∧ n.toNat < rows.length then some (.orow id ver n.toNat 0,[]) else none
    | some (.froz v rows)=>if ver = v ∧ 0 <= n then match rows[n.toNat]? with
     | some row=>if row.length = size then some (.d (.ptr row 0),[]) else none
     | none=>none
     else none
    | _=>none
   | .d (.sl rows)=>if 0 <= n then match rows[n.toNat]? with
    | some row=>if row.length = size then some (.d (.ptr row 0),[]) else none
    | none=>none
    else none
   | _=>none
  | _=>none
theorem TF (C:Nat->List D->Option D) (size:Nat) (x i:bL):cE C site ev bl (.indexAddr size x i) = W6 size (ev x) (ev i) bl:=rfl
theorem aMb {α:Type} (size:Nat) (c:α->List D) (xs:List α) (kd:IntKind) (n:Int) (bl:Nat->Option aJ):GM (W6 size (.d (.sl (cM c xs))) (.d (.int kd n)) bl) k = (at? xs n).bind fun x=>if (c x).length = size then k (.d (.ptr (c x) 0)) [] else none:=by
 simp only [W6,at?,cM]
 by_cases h:0 <= n
 ·rw [if_pos h,if_pos h,List.getElem?_map]
  cases xs[n.toNat]? with
  | none=>rfl
  | some x =>
   simp only [Option.map_some,Option.bind_some]
   by_cases h2:(c x).length = size
   ·rw [if_pos h2,if_pos h2]; rfl
   ·rw [if_neg h2,if_neg h2]; rfl
 ·rw [if_neg h,if_neg h]; rfl
def aIs (size id ver:Nat) (n:Int) (b:Option aJ):JZ:=match b with
 | some (.rows v e sz rows)=>if ver = v ∧ sz = size ∧ 0 <= n ∧ n.toNat < rows.length then some (.orow id ver n.toNat 0,[]) else none
 | some (.froz v rows)=>if ver = v ∧ 0 <= n then match rows[n.toNat]? with
  | some row=>if row.length = size then some (.d (.ptr row 0),[]) else none
  | none=>none
  else none
 | _=>none
theorem aHC (size id ver v e sz:Nat) (n:Int) (rows:List (List D)) (k:V->List (Nat × Option aJ)->Option β):GM (aIs size id ver n (some (.rows v e sz rows))) k = if ver = v then (if sz = size then (if 0 <= n ∧ n.toNat < rows.length then k (.orow id ver n.toNat 0) [] else none) else none) else none:=by
 simp only [aIs]
 by_cases h1:ver = v
 ·by_cases h2:sz = size
  ·by_cases h3:0 <= n ∧ n.toNat < rows.length
   ·rw [if_pos ⟨h1,h2,h3⟩,if_pos h1,if_pos h2,if_pos h3]; rfl
   ·rw [if_neg (fun q=>h3 q.2.2),if_pos h1,if_pos h2,if_neg h3]; rfl
  ·rw [if_neg (fun q=>h2 q.2.1),if_pos h1,if_neg h2]; rfl
 ·rw [if_neg (fun q=>h1 q.1),if_neg h1]; rfl
theorem aGs {α:Type} (size id ver v:Nat) (n:Int) (c:α->List D) (xs:List α) (k:V->List (Nat × Option aJ)->Option β):GM (aIs size id ver n (some (.froz v (cM c xs)))) k = if ver = v then ((at? xs n).bind fun x=>if (c x).length = size then k (.d (.ptr (c x) 0)) [] else none) else none:=by
 simp only [aIs,at?,cM]
 by_cases h1:ver = v
 ·by_cases h:0 <= n
  ·rw [if_pos ⟨h1,h⟩,if_pos h1,if_pos h,List.getElem?_map]
   cases xs[n.toNat]? with
   | none=>rfl
   | some x =>
    simp only [Option.map_some,Option.bind_some]
    by_cases h2:(c x).length = size
    ·rw [if_pos h2,if_pos h2]; rfl
    ·rw [if_neg h2,if_neg h2]; rfl
  ·rw [if_neg (fun q=>h q.2),if_pos h1,if_neg h]; rfl
 ·rw [if_neg (fun q=>h1 q.1),if_neg h1]; rfl
def Y8 (size:Nat) (isAgg:Bool) (off:Nat) (row:List D):JZ :=
 if isAgg then (if off + size <= row.length then some (.agg (((row.drop off).take size).map .d),[]) else none) else row[off]?.map fun v=>(.d v,[])
def aEc (size:Nat) (isAgg:Bool) (off:Nat) (b:Option aJ):JZ:=match b with
 | some (.box cs) =>
  if isAgg then (if off + size <= cs.length then some (.agg ((cs.drop off).take size),[]) else none)
  else cs[off]?.map fun v=>(v,[])
 | some (.fbox row)=>Y8 size isAgg off row
 | _=>none
def aKn (size:Nat) (isAgg:Bool) (ver i off:Nat) (b:Option aJ):JZ:=match b with
 | some (.rows v e sz rows)=>if ver = v then match rows[i]? with
  | some row=>Y8 size isAgg off row
  | none=>none
  else none
 | _=>none
def MR (size:Nat) (isAgg:Bool) (x:V) (bl:Nat->Option aJ):JZ:=match x with
 | .ptr id off=>aEc size isAgg off (bl id)
 | .d (.ptr row off)=>Y8 size isAgg off row
 | .orow id ver i off=>aKn size isAgg ver i off (bl id)
 | _=>none
theorem HZ (C:Nat->List D->Option D) (size:Nat) (isAgg:Bool) (x:bL):cE C site ev bl (.load size isAgg x) = MR size isAgg (ev x) bl:=rfl
theorem aHb (size:Nat) (isAgg:Bool) (id off:Nat) (bl:Nat->Option aJ):MR size isAgg (.ptr id off) bl = aEc size isAgg off (bl id):=rfl
theorem aN2 (size:Nat) (isAgg:Bool) (id ver i off:Nat) (bl:Nat->Option aJ):MR size isAgg (.orow id ver i off) bl = aKn size isAgg ver i off (bl id):=rfl
theorem aMs (size off:Nat) (cs:List V):aEc size true off (some (.box cs)) = if off + size <= cs.length then some (.agg ((cs.drop off).take size),[]) else none:=rfl
theorem aOG (size off:Nat) (cs:List V):aEc size false off (some (.box cs)) = cs[off]?.map fun v=>(v,[]):=rfl
def Q0 (size ver i off id:Nat) (fz:List (Nat × Option aJ)) (ds:Option (List D)) (b:Option aJ):JZ:=match b with
 | some (.rows w e sz rows)=>if ver = w then match rows[i]?,ds with
  | some row,some ds=>if ds.length = size ∧ off + size <= row.length ∧ BH id fz = true then some (.any,(id,some (.rows w e sz (rows.set i (iM row off ds)))) :: fz) else none
  | _,_=>none
  else none
 | _=>none
def aBN (size off id:Nat) (v:V) (b:Option aJ):JZ:=match b with
 | some (.box cs)=>if v.cells.length = size ∧ off + size <= cs.length ∧ v.known = true then some (.any,[(id,some (.box (iM cs off v.cells)))]) else none
 | _=>none
def aDh (size:Nat) (x v:V) (bl:Nat->Option aJ):JZ:=match x with
 | .ptr id off=>aBN size off id v (bl id)
 | .orow id ver i off=>Q0 size ver i off id (vT bl v) (aM (iN bl) v.cells) (bl id)
 | _=>none
theorem aF9 (C:Nat->List D->Option D) (size:Nat) (x v:bL):cE C site ev bl (.store size x v) = aDh size (ev x) (ev v) bl:=rfl
theorem aHT (size id off:Nat) (v:V) (bl:Nat->Option aJ):aDh size (.ptr id off) v bl = aBN size off id v (bl id):=rfl
theorem aLN (size id ver i off:Nat) (v:V) (bl:Nat->Option aJ):aDh size (.orow id ver i off) v bl = Q0 size ver i off id (vT bl v) (aM (iN bl) v.cells) (bl id):=rfl
theorem aBJ (size off id:Nat) (v:V) (cs:List V):aBN size off id v (some (.box cs)) = if v.cells.length = size ∧ off + size <= cs.length ∧ v.known = true then some (.any,[(id,some (.box (iM cs off v.cells)))]) else none:=rfl
theorem aEV (C:Nat->List D->Option D) (size:Nat) (x:bL) (lo hi:Option bL):cE C site ev bl (.slice size x lo hi) = v7 bl size (ev x) (lo.map ev) (hi.map ev):=rfl
def aJb (ver:Nat) (b:Option aJ):Option (List (List D)):=match b with
 | some (.rows v _ _ rows)=>if ver = v then some rows else none
 | some (.froz v rows)=>if ver = v then some rows else none
 | _=>none
def C4 (v:Option V) (d:Int):Option Int:=match v with
 | none=>some d
 | some (.d (.int _ h))=>some h
 | _=>none
theorem aFM {α:Type} (size:Nat) (c:α->List D) (xs:List α) (lo hi:Option V) (l h:Int) (hl:C4 lo 0 = some l) (hh:C4 hi (xs.length:Int) = some h) (hs:sized size (cM c xs) = true) (bl:Nat->Option aJ):GM (v7 bl size (.d (.sl (cM c xs))) lo hi) k = if kN xs.length l h then k (.d (.sl (cM c (nN xs l h)))) [] else none:=by
 have e0:∀ lo' hi',v7 bl size (.d (.sl (cM c xs))) lo' hi' = (match C4 hi' ((cM c xs).length:Int),C4 lo' 0 with
   | some h,some l=>if 0 <= l ∧ l <= h ∧ h.toNat <= (cM c xs).length ∧ sized size (cM c xs) = true then some (.d (.sl (((cM c xs).take h.toNat).drop l.toNat)),[]) else none
   | _,_=>none):=fun lo' hi'=>rfl
 rw [e0,show ((cM c xs).length:Int) = (xs.length:Int) by simp [cM],hl,hh]
 simp only [show (cM c xs).length = xs.length by simp [cM]]
 by_cases q:kN xs.length l h
 ·rw [if_pos q,if_pos ⟨q.1,q.2.1,q.2.2,hs⟩]
  simp only [aFz,cM,nN,List.map_drop,List.map_take]
 ·rw [if_neg q,if_neg (fun w=>q ⟨w.1,w.2.1,w.2.2.1⟩)]; rfl
def HX (x i:V):JZ:=match x,i with
  | .d (.str s),.d (.int _ n)=>if 0 <= n then match s[n.toNat]? with
   | some b=>some (.d (.int .u8 b.toNat),[])
   | none=>none
   else none
  | _,_=>none
theorem aFc (C:Nat->List D->Option D) (x i:bL):cE C site ev bl (.index x i) = HX (ev x) (ev i):=rfl
theorem aJ3 (s:ByteArray) (kd:IntKind) (n:Int):GM (HX (.d (.str s)) (.d (.int kd n))) k = (sAt s n).bind fun b=>k (.d (.int .u8 b)) []:=by
 simp only [HX,sAt]
 split
 ·cases s[n.toNat]? <;> rfl
 ·rfl
end
section
variable {S X:Type} {enc:S->St} {out:X->Ex × St}
theorem aGe (c:Prop) [Decidable c] (a b:Option (S ⊕ X)):cJ enc out (if c then a else b) = if c then cJ enc out a else cJ enc out b:=by split <;> rfl
theorem aBZ {α:Type} (o:Option α) (f:α->Option (S ⊕ X)):cJ enc out (o.bind f) = o.bind fun x=>cJ enc out (f x):=by cases o <;> rfl
theorem aCf:cJ enc out none = none:=rfl
theorem aHr (s:S):cJ enc out (some (.inl s)) = some (.normal,enc s):=rfl
theorem aGh (x:X):cJ enc out (some (.inr x)) = some (out x):=rfl
end
theorem kY {α:Type} (size:Nat) (c:α->List D) (hc:∀ x,(c x).length = size) (xs:List α):sized size (cM c xs) = true:=by
 simp [sized,cM,hc]
theorem aLp (xs:List Int):sized 1 (cM cI xs) = true:=kY _ _ (fun x=>by rfl) xs
theorem aLJ (k:IntKind) (xs:List Int):sized 1 (cM (cK k) xs) = true:=kY _ _ (fun x=>by rfl) xs
theorem ZM (xs:List Bool):sized 1 (cM cB xs) = true:=kY _ _ (fun x=>by rfl) xs
theorem aLi (xs:List ByteArray):sized 1 (cM cS xs) = true:=kY _ _ (fun x=>by rfl) xs
theorem aIW {α:Type} (c:α->List D) (xs:List (List α)):sized 1 (cM (cL c) xs) = true:=kY _ _ (fun x=>by rfl) xs
theorem vG {α:Type} (c:α->List D) (xs:List α):(cM c xs).length = xs.length:=by simp [cM]
theorem aF3 {α:Type} (c:α->List D) (xs ys:List α):cM c xs ++ cM c ys = cM c (xs ++ ys):=by simp [cM]
theorem aQA {α:Type} (c:α->List D) (xs:List α) (i:Nat) (x:α):cM c (xs.set i x) = (cM c xs).set i (c x):=by simp [cM,List.map_set]
theorem VT {α:Type} (c:α->List D) (n:Nat) (x:α):cM c (List.replicate n x) = List.replicate n (c x):=by simp [cM]
theorem aJm {α γ:Type} (c:Prop) [Decidable c] (a b:Option α) (f:α->Option γ):(if c then a else b).bind f = if c then a.bind f else b.bind f:=by split <;> rfl
theorem aMm {α γ:Type} (c:Prop) [Decidable c] (a b:Option α) (f:α->γ):(if c then a else b).map f = if c then a.map f else b.map f:=by split <;> rfl
theorem bind_map {α γ δ:Type} (o:Option α) (f:α->Option γ) (g:γ->δ):(o.bind f).map g = o.bind fun x=>(f x).map g:=by cases o <;> rfl
theorem aE0 {α γ:Type} (f:α->Option γ):(none:Option α).bind f = none:=rfl
theorem aF7 {α γ δ ε:Type} (f:α->Option δ) (g:γ->Option δ) (x:α ⊕ γ) (h:δ->Option ε):(Sum.elim f g x).bind h = Sum.elim (fun y=>(f y).bind h) (fun y=>(g y).bind h) x:=by cases x <;> rfl
theorem aLM {α γ δ ε:Type} (f:α->Option δ) (g:γ->Option δ) (x:α ⊕ γ) (h:δ->ε):(Sum.elim f g x).map h = Sum.elim (fun y=>(f y).map h) (fun y=>(g y).map h) x:=by cases x <;> rfl
def gIf {α:Type} (b:Bool) (x y:α):α:=if b = true then x else y
theorem aLF {α:Type} (b:Bool) (x y:α):gIf b x y = if b = true then x else y:=rfl
theorem aCV {S X α γ:Type} {enc:S->St} {out:X->Ex × St} (f:α->Option (S ⊕ X)) (g:γ->Option (S ⊕ X)) (x:α ⊕ γ):cJ enc out (Sum.elim f g x) = Sum.elim (fun y=>cJ enc out (f y)) (fun y=>cJ enc out (g y)) x:=by cases x <;> rfl
def aUn (sf:cO):Ex->St->Option D
 | .normal,s=>HU sf s
 | .ret,s=>HU sf s
 | .exit _,_=>none
theorem ZZ {T:vZ} {f:Nat} {sf:cO} (hf:T f = some (.code sf)) (ds:List D) (hl:ds.length = sf.np) (hlt:jB 0 ds = none):Vm.call T f ds = bU T sf.body ⟨nW 0 ds,[]⟩ (aUn sf):=by
 rw [aPn hf ds hl hlt]
 unfold bU
 cases Vm.ev T sf.body ⟨nW 0 ds,[]⟩ with
 | none=>rfl
 | some q =>
  obtain ⟨e,s⟩:=q
  cases e <;> rfl
theorem aP {α β:Type} (o:Option α) {f g:α->Option β} (h:∀ x,f x = g x):o.bind f = o.bind g:=by rw [funext h]
end Vm
end Go.Proofs.Ytgjcnbgfaimepaa
namespace Go.Proofs.Ytgjcnbgfaimepaa
namespace Vm
open Go.RowKit
section
variable {β:Type}
def iK (fr:List (Nat × V)) (t:Nat) (k:V->Option β):Option β:=k (lk fr .any t)
def bC (bl:List (Nat × Option aJ)) (i:Nat) (k:Option aJ->Option β):Option β:=k (lk bl none i)
def bW (fr:List (Nat × V)) (o:bL) (k:V->Option β):Option β:=k (bJ (lk fr .any) o)
theorem aJa (t:Nat) (v:V) (fr:List (Nat × V)) (k:V->Option β):iK ((t,v) :: fr) t k = k v:=by simp [iK,lk]
theorem aHt (a t:Nat) (v:V) (fr:List (Nat × V)) (k:V->Option β) (h:(t == a) = false):iK ((a,v) :: fr) t k = iK fr t k:=by
 have:¬ t = a:=by simpa using h
 simp [iK,lk,this]
theorem aJ5 (t:Nat) (k:V->Option β):iK [] t k = k .any:=rfl
theorem aJ9 (t:Nat) (v:Option aJ) (fr:List (Nat × Option aJ)) (k:Option aJ->Option β):bC ((t,v) :: fr) t k = k v:=by simp [bC,lk]
theorem aHg (a t:Nat) (v:Option aJ) (fr:List (Nat × Option aJ)) (k:Option aJ->Option β) (h:(t == a) = false):bC ((a,v) :: fr) t k = bC fr t k:=by
 have:¬ t = a:=by simpa using h
 simp [bC,lk,this]
theorem aIB (t:Nat) (k:Option aJ->Option β):bC [] t k = k none:=rfl
theorem aPU (bl:List (Nat × Option aJ)) (t:Nat) (k:Option aJ->Option β):bC ([] ++ bl) t k = bC bl t k:=rfl
theorem aMD (p:Nat × Option aJ) (w bl:List (Nat × Option aJ)) (t:Nat) (k:Option aJ->Option β):bC ((p :: w) ++ bl) t k = bC (p :: (w ++ bl)) t k:=rfl
theorem aRP (fr:List (Nat × V)) (t:Nat) (k:V->Option β):bW fr (.t t) k = iK fr t k:=rfl
theorem aRJ (fr:List (Nat × V)) (v:V) (k:V->Option β):bW fr (.c v) k = k v:=rfl
def aO (ds:List D):List V:=ds.map .d
def iX (ds:List D):V:=.agg (aO ds)
noncomputable def rI (T:vZ) (d:Nat) (op:fF) (fr:List (Nat × V)) (bl:List (Nat × Option aJ)) (k:V->Option β) (kw:V->List (Nat × Option aJ)->Option β):Option β :=
 match cE (call T) d (bJ (lk fr .any)) (lk bl none) op with
 | none=>none
 | some (v,[])=>k v
 | some (v,p :: wr)=>kw v (p :: wr)
theorem aGG {T:vZ} (d st:Nat) (op:fF) (l:List aR) (fr:List (Nat × V)) (bl:List (Nat × Option aJ)) (k:St->Option β) :
  sZ T (⟨some d,op,none,st⟩ :: l) ⟨fr,bl⟩ k = rI T st op fr bl (fun v=>sZ T l ⟨(d,v) :: fr,bl⟩ k) (fun v wr=>sZ T l ⟨(d,v) :: fr,wr ++ bl⟩ k):=by
 rw [UR]
 unfold rI GM
 show (match cE (call T) st (bJ (lk fr .any)) (lk bl none) op with | some (v,wr)=>_ | none=>none) = _
 cases cE (call T) st (bJ (lk fr .any)) (lk bl none) op with
 | none=>rfl
 | some r=>obtain ⟨v,wr⟩:=r; cases wr <;> rfl
theorem aBK {T:vZ} (st:Nat) (op:fF) (l:List aR) (fr:List (Nat × V)) (bl:List (Nat × Option aJ)) (k:St->Option β) :
  sZ T (⟨none,op,none,st⟩ :: l) ⟨fr,bl⟩ k = rI T st op fr bl (fun _=>sZ T l ⟨fr,bl⟩ k) (fun _ wr=>sZ T l ⟨fr,wr ++ bl⟩ k):=by
 rw [UR]
 unfold rI GM
 show (match cE (call T) st (bJ (lk fr .any)) (lk bl none) op with | some (v,wr)=>_ | none=>none) = _
 cases cE (call T) st (bJ (lk fr .any)) (lk bl none) op with
 | none=>rfl
 | some r=>obtain ⟨v,wr⟩:=r; cases wr <;> rfl
def M0 (t:Nat) (b:Bool) (op:fF):fF:=match op with
 | .pick (.t t') x y=>if t' = t then .move (if b then x else y) else op
 | op=>op
def L8 (t:Nat) (b:Bool) (o:aR):aR:=match o.guard with
 | some (t',w)=>if t' = t then (if w = b then ⟨o.dst,M0 t b o.op,none,o.site⟩ else ⟨o.dst,.move (.c (.tup [])),none,o.site⟩) else ⟨o.dst,M0 t b o.op,some (t',w),o.site⟩
 | none=>⟨o.dst,M0 t b o.op,none,o.site⟩
def BI (t:Nat) (b:Bool):List aR->List aR
 | []=>[]
 | o :: l=>L8 t b o :: (if o.dst = some t then l else BI t b l)
theorem AY {C:Nat->List D->Option D} {site:Nat} {fr:Nat->V} {bl:Nat->Option aJ} {t:Nat} {b:Bool} (h:fr t = .d (.bool b)) (op:fF):cE C site (bJ fr) bl (M0 t b op) = cE C site (bJ fr) bl op:=by
 cases op with
 | pick c x y =>
  cases c with
  | t t' =>
   simp only [M0]
   split
   ·rename_i e
    subst e
    simp only [cE,bJ,h]
    cases b <;> rfl
   ·rfl
  | c v=>rfl
 | _=>rfl
theorem aGy {C:Nat->List D->Option D} {s:St} {t:Nat} {b:Bool} (h:s.get t = .d (.bool b)) (o:aR):y7 C (L8 t b o) s = y7 C o s:=by
 obtain ⟨d,op,g,st⟩:=o
 cases g with
 | some g =>
  obtain ⟨t',w⟩:=g
  simp only [L8]
  split
  ·rename_i e
   subst e
   split
   ·rename_i e
    subst e
    simp only [y7,aR.wants,h,AY h]
    cases w <;> rfl
   ·rename_i e
    simp only [y7,aR.wants,h,cE,bJ]
    cases w <;> cases b <;> simp_all [zQ]
  ·simp only [y7,aR.wants,AY h]
 | none=>simp only [L8,y7,aR.wants,AY h]
theorem FU {s:St} {d:Option Nat} {v:V} {wr:List (Nat × Option aJ)} {t:Nat} (h:¬ d = some t):(s.put d v wr).get t = s.get t:=by
 cases d with
 | none=>rfl
 | some a =>
  show lk ((a,v) :: s.fr) .any t = lk s.fr .any t
  have:¬ t = a:=fun e=>h (by rw [e])
  simp [lk,this]
theorem aGN {C:Nat->List D->Option D} {o:aR} {s s' : St} {t:Nat} (h:¬ o.dst = some t) (e:y7 C o s = some s'):s'.get t = s.get t:=by
 unfold y7 at e
 split at e
 ·split at e
  ·cases e; exact FU h
  ·cases e
 ·cases e; exact FU h
 ·cases e
theorem NJ {C:Nat->List D->Option D} {t:Nat} {b:Bool}:∀ (l:List aR) {s:St} (h:s.get t = .d (.bool b)),iJ C (BI t b l) s = iJ C l s
 | [],s,h=>rfl
 | o :: l,s,h=>by
  simp only [BI,iJ,aGy h]
  cases e:y7 C o s with
  | none=>rfl
  | some s' =>
   simp only
   split
   ·rfl
   ·rename_i hd
    exact NJ l (by rw [aGN hd e]; exact h)
noncomputable def KX (T:vZ) (v:V) (t:Nat) (l:List aR) (s:St) (k:St->Option β):Option β:=match v with
 | .d (.bool b)=>if b = true then sZ T (BI t true l) s k else sZ T (BI t false l) s k
 | .tup []=>match l with
  | o :: r=>sZ T r (s.put o.dst (.tup []) []) k
  | []=>none
 | _=>none
theorem aBH {T:vZ} (d:Option Nat) (op:fF) (t:Nat) (w:Bool) (st:Nat) (l:List aR) (fr:List (Nat × V)) (bl:List (Nat × Option aJ)) (k:St->Option β) :
  sZ T (⟨d,op,some (t,w),st⟩ :: l) ⟨fr,bl⟩ k = iK fr t fun v=>KX T v t (⟨d,op,some (t,w),st⟩ :: l) ⟨fr,bl⟩ k:=by
 show _ = KX T (lk fr .any t) t _ _ k
 generalize hv:lk fr .any t = v
 have bad:∀ (q:zQ v w = .bad),sZ T (⟨d,op,some (t,w),st⟩ :: l) ⟨fr,bl⟩ k = none:=by
  intro q
  unfold sZ
  simp only [iJ,y7,aR.wants]
  rw [show (St.get ⟨fr,bl⟩ t) = v from hv,q]; rfl
 cases v with
 | d x =>
  cases x with
  | bool b =>
   simp only [KX]
   cases b with
   | true=>rw [if_pos rfl]; unfold sZ; rw [NJ (t:=t) (b:=true) (s:=⟨fr,bl⟩) _ hv]
   | false=>rw [if_neg (by decide)]; unfold sZ; rw [NJ (t:=t) (b:=false) (s:=⟨fr,bl⟩) _ hv]
  | _=>exact bad rfl
 | tup vs =>
  cases vs with
  | nil =>
   simp only [KX]
   unfold sZ
   simp only [iJ,y7,aR.wants]
   rw [show (St.get ⟨fr,bl⟩ t) = _ from hv]
   rfl
  | cons x l=>exact bad rfl
 | _=>exact bad rfl
theorem aJu {T:vZ} (b:Bool) (t:Nat) (l:List aR) (s:St) (k:St->Option β):KX T (.d (.bool b)) t l s k = if b = true then sZ T (BI t true l) s k else sZ T (BI t false l) s k:=rfl
theorem aKp {T:vZ} (t d st:Nat) (op:fF) (g:Option (Nat × Bool)) (l:List aR) (fr:List (Nat × V)) (bl:List (Nat × Option aJ)) (k:St->Option β):KX T (.tup []) t (⟨some d,op,g,st⟩ :: l) ⟨fr,bl⟩ k = sZ T l ⟨(d,.tup []) :: fr,bl⟩ k:=rfl
theorem aGg {T:vZ} (t st:Nat) (op:fF) (g:Option (Nat × Bool)) (l:List aR) (fr:List (Nat × V)) (bl:List (Nat × Option aJ)) (k:St->Option β):KX T (.tup []) t (⟨none,op,g,st⟩ :: l) ⟨fr,bl⟩ k = sZ T l ⟨fr,bl⟩ k:=rfl
theorem BS {T:vZ} {l l' : List aR} {s:St} {k:St->Option β} (h:l = l'):sZ T l s k = sZ T l' s k:=by rw [h]
section
variable {T:vZ} {d:Nat} {fr:List (Nat × V)} {bl:List (Nat × Option aJ)} {k:V->Option β} {kw:V->List (Nat × Option aJ)->Option β}
def FN (r:JZ) (k:V->Option β) (kw:V->List (Nat × Option aJ)->Option β):Option β:=match r with
 | none=>none
 | some (v,[])=>k v
 | some (v,p :: wr)=>kw v (p :: wr)
theorem RU (o:Option D):FN (JZ.v o) k kw = o.bind fun x=>k (.d x):=by cases o <;> rfl
theorem aJr:rI T d .fail fr bl k kw = none:=rfl
theorem aLw (x:bL):rI T d (.move x) fr bl k kw = bW fr x k:=rfl
theorem aLq (c a b:bL):rI T d (.pick c a b) fr bl k kw = bW fr c fun v=>LV v (bW fr a k) (bW fr b k):=by
 unfold rI bW LV
 simp only [cE]
 generalize bJ (lk fr .any) c = v
 cases v with
 | d x=>cases x with
  | bool b=>cases b <;> rfl
  | _=>rfl
 | _=>rfl
theorem aNf (x y:Option β):LV (.d (.bool true)) x y = x:=rfl
theorem aOL (x y:Option β):LV (.d (.bool false)) x y = y:=rfl
def fU (b:Option aJ) (x:Option β):Option β:=match b with
 | none=>x
 | some _=>none
theorem aPz (x:Option β):fU none x = x:=rfl
theorem aMx (b:aJ) (x:Option β):fU (some b) x = none:=rfl
theorem aGO (z:List V):rI T d (.alloc z) fr bl k kw = bC bl d fun b=>fU b (kw (.ptr d 0) [(d,some (.box z))]):=by
 unfold rI bC fU
 simp only [cE]
 cases lk bl none d <;> rfl
def u3 (v:V) (k:List V->Option β):Option β:=if v.known = true then k v.cells else none
theorem aIK (x:D) (k:List V->Option β):u3 (.d x) k = k [.d x]:=rfl
theorem aBv (k:List V->Option β):u3 .nil k = k [.nil]:=rfl
theorem aCq (cs:List V) (k:List V->Option β):u3 (.agg cs) k = k cs:=rfl
theorem aAF (ds:List D) (k:List V->Option β):u3 (iX ds) k = k (aO ds):=rfl
theorem aAT (i o:Nat) (k:List V->Option β):u3 (.ptr i o) k = k [.ptr i o]:=rfl
theorem aCD (i o:Nat) (k:List V->Option β):u3 (.own i o) k = k [.own i o]:=rfl
theorem XQ (i v j o:Nat) (k:List V->Option β):u3 (.orow i v j o) k = k [.orow i v j o]:=rfl
theorem aCU (k:List V->Option β):u3 .any k = none:=rfl
theorem aM0 (x:bL):rI T d (.box x) fr bl k kw = bC bl d fun b=>fU b (bW fr x fun v=>u3 v fun cs=>kw (.ptr d 0) [(d,some (.box cs))]):=by
 unfold rI bC fU bW u3
 simp only [cE]
 cases lk bl none d with
 | none =>
  simp only
  by_cases h:(bJ (lk fr .any) x).known = true
  ·rw [if_pos h,if_pos h]
  ·rw [if_neg h,if_neg h]
 | some b=>rfl
def GF (fr:List (Nat × V)):List bL->(List V->Option β)->Option β
 | [],k=>k []
 | x :: l,k=>bW fr x fun v=>GF fr l fun vs=>k (v :: vs)
theorem M3 (l:List bL) (k:List V->Option β):GF fr l k = k (l.map (bJ (lk fr .any))):=by
 induction l generalizing k with
 | nil=>rfl
 | cons x l ih=>simp only [GF,bW,ih,List.map_cons]
theorem aE7 (k:List V->Option β):GF fr [] k = k []:=rfl
theorem aAI (x:bL) (l:List bL) (k:List V->Option β):GF fr (x :: l) k = bW fr x fun v=>GF fr l fun vs=>k (v :: vs):=rfl
def K7 (fr:List (Nat × V)):List (Nat × Nat × bL)->(List (Nat × Nat × V)->Option β)->Option β
 | [],k=>k []
 | (o,s,x) :: l,k=>bW fr x fun v=>K7 fr l fun vs=>k ((o,s,v) :: vs)
theorem iY (op:fF):rI T d op fr bl k kw = FN (cE (call T) d (bJ (lk fr .any)) (lk bl none) op) k kw:=by
 unfold rI FN
 cases cE (call T) d (bJ (lk fr .any)) (lk bl none) op with
 | none=>rfl
 | some r=>obtain ⟨v,wr⟩:=r; cases wr <;> rfl
theorem EE (r:JZ):FN r k kw = GM r fun v wr=>match wr with | []=>k v | p :: w=>kw v (p :: w):=by
 cases r with
 | none=>rfl
 | some r=>obtain ⟨v,wr⟩:=r; cases wr <;> rfl
def CK:List V->Nat->(V->Option β)->Option β
 | [],_,_=>none
 | c :: _,0,k=>k c
 | _ :: cs,n + 1,k=>CK cs n k
theorem LZ (cs:List V) (n:Nat) (k:V->Option β):CK cs n k = cs[n]?.bind k:=by
 induction cs generalizing n with
 | nil=>rfl
 | cons c cs ih=>cases n with
  | zero=>rfl
  | succ n=>simp only [CK,ih,List.getElem?_cons_succ]
theorem aNe (c:V) (cs:List V) (k:V->Option β):CK (c :: cs) 0 k = k c:=rfl
theorem aNC (c:V) (cs:List V) (n:Nat) (k:V->Option β):CK (c :: cs) (n + 1) k = CK cs n k:=rfl
def cU (ds:List D) (n:Nat) (k:D->Option β):Option β:=ds[n]?.bind k
def vD (ds:List D) (off size:Nat) (k:List D->Option β):Option β:=if off + size <= ds.length then k ((ds.drop off).take size) else none
def vJ (cs:List V) (off size:Nat) (k:List V->Option β):Option β:=if off + size <= cs.length then k ((cs.drop off).take size) else none
theorem aDL (ds:List D) (n:Nat) (k:V->Option β):CK (aO ds) n k = cU ds n fun x=>k (.d x):=by
 rw [LZ]
 unfold aO cU
 rw [List.getElem?_map]
 cases ds[n]? <;> rfl
theorem aHv (cs:List V) (n:Nat) (k:List V->Option β) (h:cs.length = n):vJ cs 0 n k = k cs:=by
 subst h
 simp [vJ]
theorem aBB (c:V) (cs:List V) (off n:Nat) (k:List V->Option β):vJ (c :: cs) (off + 1) n k = vJ cs off n k:=by
 unfold vJ
 simp only [List.length_cons,List.drop_succ_cons]
 by_cases h:off + n <= cs.length
 ·rw [if_pos h,if_pos (by omega)]
 ·rw [if_neg h,if_neg (by omega)]
theorem aC4 (c:V) (cs:List V) (n:Nat) (k:List V->Option β):vJ (c :: cs) 0 (n + 1) k = vJ cs 0 n fun l=>k (c :: l):=by
 unfold vJ
 simp only [List.length_cons,List.drop_zero,List.take_succ_cons]
 by_cases h:0 + n <= cs.length
 ·rw [if_pos h,if_pos (by omega)]
 ·rw [if_neg h,if_neg (by omega)]
theorem aCK (cs:List V) (k:List V->Option β):vJ cs 0 0 k = k []:=by simp [vJ]
theorem W3 (ds:List D) (off n:Nat) (k:List V->Option β):vJ (aO ds) off n k = vD ds off n fun l=>k (aO l):=by
 unfold vJ vD aO
 simp only [List.length_map,List.map_take,List.map_drop]
def EW (size:Nat) (isAgg:Bool) (off:Nat) (b:Option aJ) (k:V->Option β):Option β:=match b with
 | some (.box cs)=>if isAgg = true then vJ cs off size fun l=>k (.agg l) else CK cs off k
 | some (.fbox row)=>if isAgg = true then vD row off size fun l=>k (iX l) else cU row off fun x=>k (.d x)
 | _=>none
def QS (size:Nat) (isAgg:Bool) (ver i off:Nat) (b:Option aJ) (k:V->Option β):Option β:=match b with
 | some (.rows v e sz rows)=>if ver = v then rows[i]?.bind fun row=>(if isAgg = true then vD row off size fun l=>k (iX l) else cU row off fun x=>k (.d x)) else none
 | _=>none
def yJ (size:Nat) (isAgg:Bool) (x:V) (bl:List (Nat × Option aJ)) (k:V->Option β):Option β:=match x with
 | .ptr id off=>bC bl id fun b=>EW size isAgg off b k
 | .d (.ptr row off)=>if isAgg = true then vD row off size fun l=>k (iX l) else cU row off fun x=>k (.d x)
 | .orow id ver i off=>bC bl id fun b=>QS size isAgg ver i off b k
 | _=>none
theorem XY (size:Nat) (isAgg:Bool) (x:bL):rI T d (.load size isAgg x) fr bl k kw = bW fr x fun v=>yJ size isAgg v bl k:=by
 rw [iY,HZ]
 unfold bW
 generalize bJ (lk fr .any) x = v
 have hD:∀ row off,FN (Y8 size isAgg off row) k kw = if isAgg = true then vD row off size fun l=>k (iX l) else cU row off fun x=>k (.d x):=by
  intro row off
  unfold Y8
  cases isAgg with
  | true=>simp only [if_true,vD]; split <;> rfl
  | false=>simp only [Bool.false_eq_true,if_false,cU]; cases row[off]? <;> rfl
 cases v with
 | ptr id off =>
  rw [aHb]
  simp only [yJ,bC]
  generalize lk bl none id = b
  cases b with
  | none=>rfl
  | some b=>cases b with
   | box cs =>
    cases isAgg with
    | true=>simp only [aMs,EW,if_true,vJ]; split <;> rfl
    | false=>simp only [aOG,EW,Bool.false_eq_true,if_false,LZ]; cases cs[off]? <;> rfl
   | fbox row=>exact hD row off
   | _=>rfl
 | d x=>cases x with
  | ptr row off=>exact hD row off
  | _=>rfl
 | orow id ver i off =>
  rw [aN2]
  simp only [yJ,bC]
  generalize lk bl none id = b
  cases b with
  | none=>rfl
  | some b=>cases b with
   | rows v e sz rows =>
    simp only [aKn,QS]
    split
    ·cases rows[i]? with
     | none=>rfl
     | some row=>exact hD row off
    ·rfl
   | _=>rfl
 | _=>rfl
theorem aFV (size:Nat) (isAgg:Bool) (id off:Nat):yJ size isAgg (.ptr id off) bl k = bC bl id fun b=>EW size isAgg off b k:=rfl
theorem aLU (size:Nat) (row:List D) (off:Nat):yJ size true (.d (.ptr row off)) bl k = vD row off size fun l=>k (iX l):=rfl
theorem aKT (size:Nat) (row:List D) (off:Nat):yJ size false (.d (.ptr row off)) bl k = cU row off fun x=>k (.d x):=rfl
theorem aM1 (size:Nat) (isAgg:Bool) (id ver i off:Nat):yJ size isAgg (.orow id ver i off) bl k = bC bl id fun b=>QS size isAgg ver i off b k:=rfl
theorem aGF (size off:Nat) (row:List D):EW size true off (some (.fbox row)) k = vD row off size fun l=>k (iX l):=rfl
theorem aEU (size off:Nat) (row:List D):EW size false off (some (.fbox row)) k = cU row off fun x=>k (.d x):=rfl
theorem aKy (size off:Nat) (cs:List V):EW size false off (some (.box cs)) k = CK cs off k:=rfl
theorem aIh (size off:Nat) (c:V) (cs:List V):EW size true off (some (.box (c :: cs))) k = vJ (c :: cs) off size fun l=>k (.agg l):=rfl
theorem aIu (size off:Nat) (ds:List D):EW size true off (some (.box (aO ds))) k = vD ds off size fun l=>k (iX l):=by
 show vJ (aO ds) off size (fun l=>k (.agg l)) = _
 rw [W3]; rfl
theorem YQ {α:Type} (size:Nat) (isAgg:Bool) (v i off e sz:Nat) (c:α->List D) (xs:List α):QS size isAgg v i off (some (.rows v e sz (cM c xs))) k = xs[i]?.bind fun x=>yJ size isAgg (.d (.ptr (c x) off)) [] k:=by
 simp only [QS,if_true,cM,List.getElem?_map]
 cases xs[i]? <;> rfl
def B4:List V->Nat->V->(List V->Option β)->Option β
 | [],_,_,_=>none
 | _ :: cs,0,v,k=>k (v :: cs)
 | c :: cs,n + 1,v,k=>B4 cs n v fun l=>k (c :: l)
theorem ZH (cs:List V) (n:Nat) (v:V) (k:List V->Option β):B4 cs n v k = if n + 1 <= cs.length then k (iM cs n [v]) else none:=by
 induction cs generalizing n k with
 | nil=>rfl
 | cons c cs ih=>cases n with
  | zero=>rw [if_pos (by simp)]; cases cs <;> rfl
  | succ n =>
   simp only [B4,ih,iM,List.length_cons]
   by_cases h:n + 1 <= cs.length
   ·rw [if_pos h,if_pos (by omega)]
   ·rw [if_neg h,if_neg (by omega)]
theorem aPo (c:V) (cs:List V) (v:V) (k:List V->Option β):B4 (c :: cs) 0 v k = k (v :: cs):=rfl
theorem aPh (c:V) (cs:List V) (n:Nat) (v:V) (k:List V->Option β):B4 (c :: cs) (n + 1) v k = B4 cs n v fun l=>k (c :: l):=rfl
def gQ (cs:List V) (off:Nat) (ws:List V) (k:List V->Option β):Option β:=if off + ws.length <= cs.length then k (iM cs off ws) else none
theorem TK {α:Type} (l:List α) (n:Nat):iM l n [] = l:=by cases l <;> rfl
theorem XF (c:V) (cs:List V) (off:Nat) (ws:List V) (k:List V->Option β) (hw:ws ≠ []):gQ (c :: cs) (off + 1) ws k = gQ cs off ws fun l=>k (c :: l):=by
 unfold gQ
 cases ws with
 | nil=>exact absurd rfl hw
 | cons w ws =>
  simp only [List.length_cons,iM]
  by_cases h:off + (ws.length + 1) <= cs.length
  ·rw [if_pos h,if_pos (by omega)]
  ·rw [if_neg h,if_neg (by omega)]
theorem aAU (c:V) (cs:List V) (w:V) (ws:List V) (k:List V->Option β):gQ (c :: cs) 0 (w :: ws) k = gQ cs 0 ws fun l=>k (w :: l):=by
 unfold gQ
 simp only [List.length_cons,iM]
 by_cases h:0 + ws.length <= cs.length
 ·rw [if_pos h,if_pos (by omega)]
 ·rw [if_neg h,if_neg (by omega)]
theorem aCX (cs:List V) (k:List V->Option β):gQ cs 0 [] k = k cs:=by simp [gQ,TK]
def aL (size off id:Nat) (v:V) (b:Option aJ) (kw:V->List (Nat × Option aJ)->Option β):Option β:=match b with
 | some (.box cs)=>if v.cells.length = size ∧ off + size <= cs.length ∧ v.known = true then kw .any [(id,some (.box (iM cs off v.cells)))] else none
 | _=>none
def MA (size ver i off id:Nat) (v:V) (bl:List (Nat × Option aJ)) (b:Option aJ) (kw:V->List (Nat × Option aJ)->Option β):Option β:=GM (Q0 size ver i off id (vT (lk bl none) v) (aM (iN (lk bl none)) v.cells) b) kw
def RH (size:Nat) (p v:V) (bl:List (Nat × Option aJ)) (kw:V->List (Nat × Option aJ)->Option β):Option β:=match p with
 | .ptr id off=>bC bl id fun b=>aL size off id v b kw
 | .orow id ver i off=>bC bl id fun b=>MA size ver i off id v bl b kw
 | _=>none
theorem aEQ (size:Nat) (x v:bL):rI T d (.store size x v) fr bl k kw = bW fr x fun p=>bW fr v fun w=>RH size p w bl kw:=by
 rw [iY,aF9]
 unfold bW
 generalize bJ (lk fr .any) x = p
 generalize bJ (lk fr .any) v = w
 cases p with
 | ptr id off =>
  rw [aHT]
  simp only [RH,bC]
  generalize lk bl none id = b
  cases b with
  | none=>rfl
  | some b=>cases b with
   | box cs =>
    simp only [aBJ,aL]
    by_cases h:w.cells.length = size ∧ off + size <= cs.length ∧ w.known = true
    ·rw [if_pos h,if_pos h]; rfl
    ·rw [if_neg h,if_neg h]; rfl
   | _=>rfl
 | orow id ver i off =>
  rw [aLN]
  simp only [RH,bC,MA]
  rw [EE]
  generalize lk bl none id = b
  cases b with
  | none=>rfl
  | some b=>cases b with
   | rows v e sz rows =>
    simp only [Q0]
    by_cases h:ver = v
    ·rw [if_pos h]
     cases rows[i]? with
     | none=>rfl
     | some row =>
      cases aM (iN (lk bl none)) w.cells with
      | none=>rfl
      | some ds =>
       simp only
       split <;> rfl
    ·rw [if_neg h]; rfl
   | _=>rfl
 | _=>rfl
theorem aKw (size id off:Nat) (v:V):RH size (.ptr id off) v bl kw = bC bl id fun b=>aL size off id v b kw:=rfl
theorem aK5 (size id ver i off:Nat) (v:V):RH size (.orow id ver i off) v bl kw = bC bl id fun b=>MA size ver i off id v bl b kw:=rfl
theorem I4 (off id:Nat) (w c:V) (cs:List V) (hw:w.one = true) (hk:w.known = true):aL 1 off id w (some (.box (c :: cs))) kw = B4 (c :: cs) off w fun l=>kw .any [(id,some (.box l))]:=by
 have hc:w.cells = [w]:=by cases w <;> first | rfl | cases hw
 rw [ZH]
 simp only [aL,hc,hk]
 by_cases h:off + 1 <= (c :: cs).length
 ·rw [if_pos h,if_pos ⟨rfl,h,trivial⟩]
 ·rw [if_neg h,if_neg (fun q=>h q.2.1)]
theorem aHf (off id:Nat) (x:D) (c:V) (cs:List V):aL 1 off id (.d x) (some (.box (c :: cs))) kw = B4 (c :: cs) off (.d x) fun l=>kw .any [(id,some (.box l))]:=I4 off id _ c cs rfl rfl
theorem ZX (off id:Nat) (c:V) (cs:List V):aL 1 off id .nil (some (.box (c :: cs))) kw = B4 (c :: cs) off .nil fun l=>kw .any [(id,some (.box l))]:=I4 off id _ c cs rfl rfl
theorem YS (off id i v:Nat) (c:V) (cs:List V):aL 1 off id (.own i v) (some (.box (c :: cs))) kw = B4 (c :: cs) off (.own i v) fun l=>kw .any [(id,some (.box l))]:=I4 off id _ c cs rfl rfl
theorem YD (off id i v:Nat) (c:V) (cs:List V):aL 1 off id (.ptr i v) (some (.box (c :: cs))) kw = B4 (c :: cs) off (.ptr i v) fun l=>kw .any [(id,some (.box l))]:=I4 off id _ c cs rfl rfl
def xI (cs:List V) (n:Nat) (x:Option β):Option β:=if cs.length = n then x else none
theorem aOy (x:Option β):xI [] 0 x = x:=rfl
theorem aNV (c:V) (cs:List V) (n:Nat) (x:Option β):xI (c :: cs) (n + 1) x = xI cs n x:=by
 unfold xI
 simp only [List.length_cons]
 by_cases h:cs.length = n
 ·rw [if_pos h,if_pos (by omega)]
 ·rw [if_neg h,if_neg (by omega)]
theorem aAf (size off id:Nat) (ws:List V) (c:V) (cs:List V):aL size off id (.agg ws) (some (.box (c :: cs))) kw = xI ws size (gQ (c :: cs) off ws fun l=>kw .any [(id,some (.box l))]):=by
 unfold xI gQ
 show (if ws.length = size ∧ off + size <= (c :: cs).length ∧ V.known (.agg ws) = true then kw .any [(id,some (.box (iM (c :: cs) off ws)))] else none) = _
 by_cases h:ws.length = size
 ·subst h
  rw [if_pos rfl]
  by_cases h:off + ws.length <= (c :: cs).length
  ·rw [if_pos h,if_pos ⟨rfl,h,rfl⟩]
  ·rw [if_neg h,if_neg (fun q=>h q.2.1)]
 ·rw [if_neg h,if_neg (fun q=>h q.1)]
theorem UT {α:Type}:∀ (l m:List α),l.length = m.length->iM l 0 m = m
 | [],[],_=>rfl
 | _ :: l,x :: m,h=>by
  simp only [iM]
  rw [UT l m (by simpa using h)]
 | [],_ :: _,h=>by simp at h
 | _ :: _,[],h=>by simp at h
theorem iV (n id:Nat) (ds:List D) (hd:ds.length = n) (cs:List V) (hc:cs.length = n):aL n 0 id (iX ds) (some (.box cs)) kw = kw .any [(id,some (.box (aO ds)))]:=by
 have e:(aO ds).length = n:=by rw [← hd]; simp [aO]
 show (if (aO ds).length = n ∧ 0 + n <= cs.length ∧ V.known (iX ds) = true then kw .any [(id,some (.box (iM cs 0 (aO ds))))] else none) = _
 rw [if_pos ⟨e,by omega,rfl⟩,UT _ _ (by rw [hc,e])]
def aID (v:V) (bl:List (Nat × Option aJ)) (k:V->Option β):Option β:=match v with
 | .ptr id off=>k (.ptr id off)
 | .d (.ptr row off)=>k (.d (.ptr row off))
 | .orow id ver i off=>bC bl id fun b=>match b with
  | some (.rows v _ _ _)=>if ver = v then k (.orow id ver i off) else none
  | _=>none
 | _=>none
theorem VM (x:bL):rI T d (.nilCheck x) fr bl k kw = bW fr x fun v=>aID v bl k:=by
 unfold rI bW
 simp only [cE]
 generalize bJ (lk fr .any) x = v
 cases v with
 | d x=>cases x <;> rfl
 | orow id ver i off =>
  simp only [aID,bC]
  generalize lk bl none id = b
  cases b with
  | none=>rfl
  | some b=>cases b with
   | rows v e s rows=>simp only; by_cases h:ver = v <;> simp [h]
   | _=>rfl
 | _=>rfl
theorem aQU (id off:Nat):aID (.ptr id off) bl k = k (.ptr id off):=rfl
theorem aQK (row:List D) (off:Nat):aID (.d (.ptr row off)) bl k = k (.d (.ptr row off)):=rfl
def Z0 (id ver i off:Nat) (b:Option aJ) (k:V->Option β):Option β:=match b with
 | some (.rows v _ _ _)=>if ver = v then k (.orow id ver i off) else none
 | _=>none
theorem aQZ (id ver i off:Nat):aID (.orow id ver i off) bl k = bC bl id fun b=>Z0 id ver i off b k:=rfl
theorem aNZ (id ver i off e s:Nat) (rows:List (List D)):Z0 id ver i off (some (.rows ver e s rows)) k = k (.orow id ver i off):=if_pos rfl
def faK (off:Nat) (v:V) (bl:List (Nat × Option aJ)) (k:V->Option β):Option β:=match v with
 | .ptr id o=>k (.ptr id (o + off))
 | .d (.ptr row o)=>k (.d (.ptr row (o + off)))
 | .orow id ver i o=>bC bl id fun b=>Z0 id ver i (o + off) b k
 | _=>none
theorem S7 (off:Nat) (x:bL):rI T d (.fieldAddr off x) fr bl k kw = bW fr x fun v=>faK off v bl k:=by
 unfold rI bW
 simp only [cE]
 generalize bJ (lk fr .any) x = v
 cases v with
 | d x=>cases x <;> rfl
 | orow id ver i o =>
  simp only [faK,bC]
  generalize lk bl none id = b
  cases b with
  | none=>rfl
  | some b=>cases b with
   | rows v e s rows=>simp only [Z0]; by_cases h:ver = v <;> simp [h]
   | _=>rfl
 | _=>rfl
theorem aSO (off id o:Nat):faK off (.ptr id o) bl k = k (.ptr id (o + off)):=rfl
theorem aTh (off:Nat) (row:List D) (o:Nat):faK off (.d (.ptr row o)) bl k = k (.d (.ptr row (o + off))):=rfl
theorem aSB (off id ver i o:Nat):faK off (.orow id ver i o) bl k = bC bl id fun b=>Z0 id ver i (o + off) b k:=rfl
def qY (c:Nat) (op:BinOp) (a b:V) (k:V->Option β):Option β:=(A4 c op a b).bind fun x=>k (.d x)
theorem aNk (c:Nat) (op:BinOp) (x y:bL):rI T d (.bin c op x y) fr bl k kw = bW fr x fun a=>bW fr y fun b=>qY c op a b k:=by
 rw [iY]
 exact RU _
section
variable (kd:IntKind) (x y:Int)
theorem aJj:qY 0 .add (.d (.int kd x)) (.d (.int kd y)) k = k (.d (.int kd (IntKind.wrap kd (x + y)))):=by simp [qY,A4,qH]
theorem aKd:qY 0 .sub (.d (.int kd x)) (.d (.int kd y)) k = k (.d (.int kd (IntKind.wrap kd (x - y)))):=by simp [qY,A4,qH]
theorem aLm:qY 0 .mul (.d (.int kd x)) (.d (.int kd y)) k = k (.d (.int kd (IntKind.wrap kd (x * y)))):=by simp [qY,A4,qH]
theorem aJZ:qY 0 .quo (.d (.int kd x)) (.d (.int kd y)) k = if y = 0 then none else k (.d (.int kd (IntKind.wrap kd (x.tdiv y)))):=by
 simp only [qY,A4,qH,if_true]; split <;> rfl
theorem aJw:qY 0 .rem (.d (.int kd x)) (.d (.int kd y)) k = if y = 0 then none else k (.d (.int kd (x.tmod y))):=by
 simp only [qY,A4,qH,if_true]; split <;> rfl
theorem aH1:qY 0 .eql (.d (.int kd x)) (.d (.int kd y)) k = k (.d (.bool (x == y))):=by simp [qY,A4,qH]
theorem aHI:qY 0 .neq (.d (.int kd x)) (.d (.int kd y)) k = k (.d (.bool (x != y))):=by simp [qY,A4,qH]
theorem aKt:qY 0 .lss (.d (.int kd x)) (.d (.int kd y)) k = k (.d (.bool (decide (x < y)))):=by simp [qY,A4,qH]
theorem aJh:qY 0 .leq (.d (.int kd x)) (.d (.int kd y)) k = k (.d (.bool (decide (x <= y)))):=by simp [qY,A4,qH]
theorem aIj:qY 0 .gtr (.d (.int kd x)) (.d (.int kd y)) k = k (.d (.bool (decide (x > y)))):=by simp [qY,A4,qH]
theorem aIq:qY 0 .geq (.d (.int kd x)) (.d (.int kd y)) k = k (.d (.bool (decide (x ≥ y)))):=by simp [qY,A4,qH]
theorem aKR:qY 0 .and (.d (.int kd x)) (.d (.int kd y)) k = k (.d (.int kd (IntKind.wrap kd (BitVec.ofInt (IntKind.bits kd) x &&& BitVec.ofInt (IntKind.bits kd) y).toNat))):=by simp [qY,A4,qH]
theorem aPx:qY 0 .or (.d (.int kd x)) (.d (.int kd y)) k = k (.d (.int kd (IntKind.wrap kd (BitVec.ofInt (IntKind.bits kd) x ||| BitVec.ofInt (IntKind.bits kd) y).toNat))):=by simp [qY,A4,qH]
theorem aJC:qY 0 .xor (.d (.int kd x)) (.d (.int kd y)) k = k (.d (.int kd (IntKind.wrap kd (BitVec.ofInt (IntKind.bits kd) x ^^^ BitVec.ofInt (IntKind.bits kd) y).toNat))):=by simp [qY,A4,qH]
end
section
variable (x y:ByteArray)
theorem aFR:qY 0 .eql (.d (.str x)) (.d (.str y)) k = k (.d (.bool (x.toList == y.toList))):=rfl
theorem aFX:qY 0 .neq (.d (.str x)) (.d (.str y)) k = k (.d (.bool !(x.toList == y.toList))):=rfl
theorem aHy:qY 0 .lss (.d (.str x)) (.d (.str y)) k = k (.d (.bool (Op.bytesLess x.toList y.toList))):=rfl
theorem aHj:qY 0 .leq (.d (.str x)) (.d (.str y)) k = k (.d (.bool (Op.bytesLess x.toList y.toList || x.toList == y.toList))):=rfl
theorem aFa:qY 0 .gtr (.d (.str x)) (.d (.str y)) k = k (.d (.bool !(Op.bytesLess x.toList y.toList || x.toList == y.toList))):=rfl
theorem aEM:qY 0 .geq (.d (.str x)) (.d (.str y)) k = k (.d (.bool !(Op.bytesLess x.toList y.toList))):=rfl
end
theorem aGl (x y:Bool):qY 1 .eql (.d (.bool x)) (.d (.bool y)) k = k (.d (.bool (x == y))):=rfl
theorem aF0 (x y:Bool):qY 1 .neq (.d (.bool x)) (.d (.bool y)) k = k (.d (.bool !(x == y))):=rfl
def SI (o:Option D) (k:V->Option β):Option β:=o.bind fun x=>k (.d x)
theorem BP {o o' : Option D} {k:V->Option β} (h:o = o'):SI o k = SI o' k:=by rw [h]
theorem aG3 (x:D):SI (some x) k = k (.d x):=rfl
theorem aF8:SI none k = none:=rfl
theorem aPy (ks:List Nat) (neg:Bool) (x y:bL):rI T d (.eqS ks neg x y) fr bl k kw = bW fr x fun a=>bW fr y fun b=>SI (eqV ks neg a b) k:=by
 rw [iY]
 exact RU _
def iI:List Nat->List V->List V->(Bool->Option β)->Option β:=fun ks xs ys k=>match dS ks xs ys with
 | some b=>k b
 | none=>none
def SQ (ks:List Nat) (neg:Bool) (a b:V) (k:V->Option β):Option β:=match a,b with
 | .agg xs,.agg ys=>iI ks xs ys fun b=>k (.d (.bool (if neg then !b else b)))
 | _,_=>none
theorem aMI (ks:List Nat) (neg:Bool) (x y:bL):rI T d (.eqS ks neg x y) fr bl k kw = bW fr x fun a=>bW fr y fun b=>SQ ks neg a b k:=by
 rw [aPy]
 unfold bW
 generalize bJ (lk fr .any) x = a
 generalize bJ (lk fr .any) y = b
 cases a with
 | agg xs=>cases b with
  | agg ys =>
   simp only [eqV,SQ,iI,SI]
   cases dS ks xs ys <;> rfl
  | _=>rfl
 | _=>cases b <;> rfl
section
variable {k:V->Option β}
theorem aIl (ks:List Nat) (xs ys:List V):SQ ks true (.agg xs) (.agg ys) k = iI ks xs ys fun b=>k (.d (.bool !b)):=rfl
theorem aJS (ks:List Nat) (xs ys:List V):SQ ks false (.agg xs) (.agg ys) k = iI ks xs ys fun b=>k (.d (.bool b)):=rfl
theorem aLP (ks:List Nat) (xs:List D) (ys:List V):SQ ks true (iX xs) (.agg ys) k = iI ks (aO xs) ys fun b=>k (.d (.bool !b)):=rfl
theorem aIo (ks:List Nat) (xs:List D) (ys:List V):SQ ks false (iX xs) (.agg ys) k = iI ks (aO xs) ys fun b=>k (.d (.bool b)):=rfl
theorem aK8 (ks:List Nat) (xs:List V) (ys:List D):SQ ks true (.agg xs) (iX ys) k = iI ks xs (aO ys) fun b=>k (.d (.bool !b)):=rfl
theorem aIk (ks:List Nat) (xs:List V) (ys:List D):SQ ks false (.agg xs) (iX ys) k = iI ks xs (aO ys) fun b=>k (.d (.bool b)):=rfl
theorem aJJ (ks:List Nat) (xs ys:List D):SQ ks true (iX xs) (iX ys) k = iI ks (aO xs) (aO ys) fun b=>k (.d (.bool !b)):=rfl
theorem aIS (ks:List Nat) (xs ys:List D):SQ ks false (iX xs) (iX ys) k = iI ks (aO xs) (aO ys) fun b=>k (.d (.bool b)):=rfl
end
section
variable {k:Bool->Option β}
theorem aO1 (kd:IntKind) (x y:Int):iI [0] [.d (.int kd x)] [.d (.int kd y)] k = k (x == y):=by simp [iI,dS,wO]
theorem aMR (x y:Bool):iI [1] [.d (.bool x)] [.d (.bool y)] k = k (x == y):=by simp [iI,dS,wO]
theorem aNj (x y:ByteArray):iI [2] [.d (.str x)] [.d (.str y)] k = k (x == y):=by simp [iI,dS,wO]
theorem aRI (kd:IntKind) (x y:Int) (c:Nat) (ks:List Nat) (xs ys:List V):iI (0 :: c :: ks) (.d (.int kd x) :: xs) (.d (.int kd y) :: ys) k = iI (c :: ks) xs ys fun b=>k ((x == y) && b):=by
 simp only [iI,dS,wO,if_true]
 cases dS (c :: ks) xs ys <;> rfl
theorem aRl (x y:Bool) (c:Nat) (ks:List Nat) (xs ys:List V):iI (1 :: c :: ks) (.d (.bool x) :: xs) (.d (.bool y) :: ys) k = iI (c :: ks) xs ys fun b=>k ((x == y) && b):=by
 simp only [iI,dS,wO]
 cases dS (c :: ks) xs ys <;> rfl
theorem aQs (x y:ByteArray) (c:Nat) (ks:List Nat) (xs ys:List V):iI (2 :: c :: ks) (.d (.str x) :: xs) (.d (.str y) :: ys) k = iI (c :: ks) xs ys fun b=>k ((x == y) && b):=by
 simp only [iI,dS,wO]
 cases dS (c :: ks) xs ys <;> rfl
end
def aJn (kd:IntKind) (x:Int):List V->(V->Option β)->Option β:=fun l k=>SI (aCY kd x l) k
def aJ7 (kd:IntKind) (x:Int):List V->(V->Option β)->Option β:=fun l k=>SI (aDs kd x l) k
def aQf (l:List V) (k:V->Option β):Option β:=SI (aPe l) k
def aQh (l:List V) (k:V->Option β):Option β:=SI (aMQ l) k
theorem aMg (l:List bL):rI T d (.max l) fr bl k kw = GF fr l fun vs=>aQf vs k:=by
 rw [iY,M3]
 exact RU _
theorem aL6 (l:List bL):rI T d (.min l) fr bl k kw = GF fr l fun vs=>aQh vs k:=by
 rw [iY,M3]
 exact RU _
section
variable {k:V->Option β}
theorem aPQ (kd:IntKind) (x:Int) (l:List V):aQf (.d (.int kd x) :: l) k = aJn kd x l k:=rfl
theorem aPE (kd:IntKind) (x:Int) (l:List V):aQh (.d (.int kd x) :: l) k = aJ7 kd x l k:=rfl
theorem aJe (kd:IntKind) (x:Int):aJn kd x [] k = k (.d (.int kd x)):=rfl
theorem aH7 (kd:IntKind) (x:Int):aJ7 kd x [] k = k (.d (.int kd x)):=rfl
theorem aEE (kd:IntKind) (x y:Int) (l:List V):aJn kd x (.d (.int kd y) :: l) k = aJn kd (if y > x then y else x) l k:=by simp [aJn,aCY]
theorem aFN (kd:IntKind) (x y:Int) (l:List V):aJ7 kd x (.d (.int kd y) :: l) k = aJ7 kd (if y < x then y else x) l k:=by simp [aJ7,aDs]
end
def unK (op:UnOp) (v:V) (k:V->Option β):Option β:=SI (unV op v) k
theorem aRc (op:UnOp) (x:bL):rI T d (.un op x) fr bl k kw = bW fr x fun a=>unK op a k:=by
 rw [iY]
 exact RU _
theorem aOE (b:Bool):unK .not (.d (.bool b)) k = k (.d (.bool !b)):=rfl
theorem aMN (kd:IntKind) (n:Int):unK .neg (.d (.int kd n)) k = k (.d (.int kd (IntKind.wrap kd (0 - n)))):=rfl
def aQi (kd:IntKind) (v:V) (k:V->Option β):Option β:=match v with
 | .d (.int _ n)=>k (.d (.int kd (IntKind.wrap kd n)))
 | _=>none
theorem aHO (kd:IntKind) (x:bL):rI T d (.conv kd x) fr bl k kw = bW fr x fun a=>aQi kd a k:=by
 unfold rI bW
 simp only [cE]
 generalize bJ (lk fr .any) x = v
 cases v with
 | d x=>cases x <;> rfl
 | _=>rfl
theorem aMd (kd kd' : IntKind) (n:Int):aQi kd (.d (.int kd' n)) k = k (.d (.int kd (IntKind.wrap kd n))):=rfl
def VU (s:ByteArray):List Int:=s.data.toList.map fun b=>(b.toNat:Int)
def aBa (v:V) (k:V->Option β):Option β:=match v with
 | .d (.str s)=>k (.d (.sl (cM (cK .u8) (VU s))))
 | _=>none
theorem aEL (x:bL):rI T d (.bytes x) fr bl k kw = bW fr x fun a=>aBa a k:=by
 unfold rI bW
 simp only [cE]
 generalize bJ (lk fr .any) x = v
 cases v with
 | d x=>cases x with
  | str s =>
   have:(s.data.toList.map fun b=>[D.int .u8 (b.toNat:Int)]) = cM (cK .u8) (VU s):=by
    simp only [cM,VU,List.map_map]
    rfl
   simp only [aBa,this]
  | _=>rfl
 | _=>rfl
theorem aLh (s:ByteArray):aBa (.d (.str s)) k = k (.d (.sl (cM (cK .u8) (VU s)))):=rfl
def J6 (v:V) (bl:List (Nat × Option aJ)) (k:List (List D)->Option β):Option β:=(fV (lk bl none) v).bind k
def G1 (ver:Nat) (b:Option aJ) (k:List (List D)->Option β):Option β:=(aJb ver b).bind k
theorem aLy (rows:List (List D)) (k:List (List D)->Option β):J6 (.d (.sl rows)) bl k = k rows:=rfl
theorem aG9 (k:List (List D)->Option β):J6 .nil bl k = k []:=rfl
theorem UZ (id ver:Nat) (k:List (List D)->Option β):J6 (.own id ver) bl k = bC bl id fun b=>G1 ver b k:=by
 unfold J6 bC G1
 simp only [fV]
 generalize lk bl none id = b
 cases b with
 | none=>rfl
 | some b=>cases b <;> rfl
theorem OZ (v e s:Nat) (rows:List (List D)) (k:List (List D)->Option β):G1 v (some (.rows v e s rows)) k = k rows:=by simp [G1,aJb]
theorem OR (v:Nat) (rows:List (List D)) (k:List (List D)->Option β):G1 v (some (.froz v rows)) k = k rows:=by simp [G1,aJb]
theorem aPL (x:bL):rI T d (.len x) fr bl k kw = bW fr x fun a=>J6 a bl fun rows=>k (.d (.int .i64 rows.length)):=by
 unfold rI bW J6
 simp only [cE]
 cases fV (lk bl none) (bJ (lk fr .any) x) <;> rfl
def aQj (v:V) (k:V->Option β):Option β:=match v with
 | .d (.str s)=>k (.d (.int .i64 s.size))
 | _=>none
theorem aK2 (x:bL):rI T d (.lenS x) fr bl k kw = bW fr x fun a=>aQj a k:=by
 unfold rI bW
 simp only [cE]
 generalize bJ (lk fr .any) x = v
 cases v with
 | d x=>cases x <;> rfl
 | _=>rfl
theorem aOI (s:ByteArray):aQj (.d (.str s)) k = k (.d (.int .i64 s.size)):=rfl
def LD (off size:Nat) (isAgg:Bool) (v:V) (k:V->Option β):Option β:=match v with
 | .agg cs=>if isAgg = true then vJ cs off size fun l=>k (.agg l) else CK cs off k
 | _=>none
theorem aFp (off size:Nat) (isAgg:Bool) (x:bL):rI T d (.field off size isAgg x) fr bl k kw = bW fr x fun v=>LD off size isAgg v k:=by
 unfold rI bW
 simp only [cE]
 generalize bJ (lk fr .any) x = v
 cases v with
 | agg cs =>
  cases isAgg with
  | true =>
   simp only [LD,vJ,if_true]
   by_cases h:off + size <= cs.length
   ·rw [if_pos h,if_pos h]
   ·rw [if_neg h,if_neg h]
  | false=>simp only [LD,LZ,Bool.false_eq_true,if_false]; cases cs[off]? <;> rfl
 | _=>rfl
theorem aJi (off size:Nat) (cs:List V):LD off size false (.agg cs) k = CK cs off k:=rfl
theorem aHY (off size:Nat) (cs:List V):LD off size true (.agg cs) k = vJ cs off size fun l=>k (.agg l):=rfl
theorem aGA (off size:Nat) (ds:List D):LD off size false (iX ds) k = cU ds off fun x=>k (.d x):=by
 show CK (aO ds) off k = _
 rw [aDL]
theorem aG0 (off size:Nat) (ds:List D):LD off size true (iX ds) k = vD ds off size fun l=>k (iX l):=by
 show vJ (aO ds) off size (fun l=>k (.agg l)) = _
 rw [W3]; rfl
def oR (ds:List D) (n:Nat) (x:Option β):Option β:=if ds.length = n then x else none
def aJP (size:Nat) (x i:V) (bl:List (Nat × Option aJ)) (k:V->Option β):Option β:=FN (W6 size x i (lk bl none)) k fun _ _=>none
theorem aFe {size:Nat} {x i:V} {b:Nat->Option aJ} {kw' : V->List (Nat × Option aJ)->Option β}:FN (W6 size x i b) k kw = FN (W6 size x i b) k kw':=by
 have:∀ r,W6 size x i b = some r->r.2 = []:=by
  intro r
  unfold W6
  intro e
  repeat' split at e
  all_goals first | cases e; rfl | cases e
 cases h:W6 size x i b with
 | none=>rfl
 | some r=>obtain ⟨v,wr⟩:=r; have:=this _ h; dsimp only at this; subst this; rfl
theorem TB (size:Nat) (x i:bL):rI T d (.indexAddr size x i) fr bl k kw = bW fr x fun a=>bW fr i fun b=>aJP size a b bl k:=by
 rw [iY,TF]
 unfold bW aJP
 exact aFe
theorem aM5 {α:Type} (size:Nat) (c:α->List D) (xs:List α) (kd:IntKind) (n:Int):aJP size (.d (.sl (cM c xs))) (.d (.int kd n)) bl k = (at? xs n).bind fun x=>oR (c x) size (k (.d (.ptr (c x) 0))):=by
 unfold aJP
 rw [EE,aMb]
 rfl
def Y0 (size id ver:Nat) (n:Int) (b:Option aJ) (k:V->Option β):Option β:=FN (aIs size id ver n b) k fun _ _=>none
theorem aHZ (size id ver:Nat) (kd:IntKind) (n:Int):aJP size (.own id ver) (.d (.int kd n)) bl k = bC bl id fun b=>Y0 size id ver n b k:=rfl
theorem aCb {α:Type} (size id v e:Nat) (n:Int) (c:α->List D) (xs:List α):Y0 size id v n (some (.rows v e size (cM c xs))) k = if 0 <= n ∧ n.toNat < xs.length then k (.orow id v n.toNat 0) else none:=by
 unfold Y0
 rw [EE,aHC,if_pos rfl,if_pos rfl,vG]
theorem aBA {α:Type} (size id v:Nat) (n:Int) (c:α->List D) (xs:List α):Y0 size id v n (some (.froz v (cM c xs))) k = (at? xs n).bind fun x=>oR (c x) size (k (.d (.ptr (c x) 0))):=by
 unfold Y0
 rw [EE,aGs,if_pos rfl]
 rfl
def aEb (x i:V) (k:V->Option β):Option β:=GM (HX x i) fun v _=>k v
theorem aGD (x i:bL):rI T d (.index x i) fr bl k kw = bW fr x fun a=>bW fr i fun b=>aEb a b k:=by
 rw [iY,aFc]
 unfold bW aEb
 generalize bJ (lk fr .any) x = a
 generalize bJ (lk fr .any) i = b
 have:∀ r,HX a b = some r->r.2 = []:=by
  intro r
  unfold HX
  intro e
  repeat' split at e
  all_goals first | cases e; rfl | cases e
 show _ = GM (HX a b) fun v _=>k v
 cases h:HX a b with
 | none=>rfl
 | some r=>obtain ⟨v,wr⟩:=r; have:=this _ h; dsimp only at this; subst this; rfl
theorem aO0 (s:ByteArray) (kd:IntKind) (n:Int):aEb (.d (.str s)) (.d (.int kd n)) k = (sAt s n).bind fun b=>k (.d (.int .u8 b)):=by
 unfold aEb
 rw [aJ3]
def aCL (fr:List (Nat × V)) (o:Option bL) (k:Option V->Option β):Option β:=match o with
 | none=>k none
 | some x=>bW fr x fun v=>k (some v)
theorem aRt (k:Option V->Option β):aCL fr none k = k none:=rfl
theorem aRT (x:bL) (k:Option V->Option β):aCL fr (some x) k = bW fr x fun v=>k (some v):=rfl
def ES (size:Nat) (x:V) (lo hi:Option V) (bl:List (Nat × Option aJ)) (k:V->Option β) (kw:V->List (Nat × Option aJ)->Option β):Option β:=FN (v7 (lk bl none) size x lo hi) k kw
theorem aEY (size:Nat) (x:bL) (lo hi:Option bL):rI T d (.slice size x lo hi) fr bl k kw = bW fr x fun a=>aCL fr lo fun l=>aCL fr hi fun h=>ES size a l h bl k kw:=by
 rw [iY,aEV]
 cases lo <;> cases hi <;> rfl
section
variable {α:Type} (size:Nat) (c:α->List D) (xs:List α) (hs:sized size (cM c xs) = true)
include hs
theorem I2 {lo hi:Option V} {l h:Int} (hl:C4 lo 0 = some l) (hh:C4 hi (xs.length:Int) = some h):ES size (.d (.sl (cM c xs))) lo hi bl k kw = if kN xs.length l h then k (.d (.sl (cM c (nN xs l h)))) else none:=by
 unfold ES
 rw [EE,aFM _ size c xs lo hi l h hl hh hs]
theorem aGJ:ES size (.d (.sl (cM c xs))) none none bl k kw = if kN xs.length 0 (xs.length:Int) then k (.d (.sl (cM c (nN xs 0 (xs.length:Int))))) else none:=I2 size c xs hs rfl rfl
theorem aGo (kd:IntKind) (l:Int):ES size (.d (.sl (cM c xs))) (some (.d (.int kd l))) none bl k kw = if kN xs.length l (xs.length:Int) then k (.d (.sl (cM c (nN xs l (xs.length:Int))))) else none:=I2 size c xs hs rfl rfl
theorem aEX (kd:IntKind) (h:Int):ES size (.d (.sl (cM c xs))) none (some (.d (.int kd h))) bl k kw = if kN xs.length 0 h then k (.d (.sl (cM c (nN xs 0 h)))) else none:=I2 size c xs hs rfl rfl
theorem aFi (kd kd' : IntKind) (l h:Int):ES size (.d (.sl (cM c xs))) (some (.d (.int kd l))) (some (.d (.int kd' h))) bl k kw = if kN xs.length l h then k (.d (.sl (cM c (nN xs l h)))) else none:=I2 size c xs hs rfl rfl
end
def SV (e size bytes d:Nat) (x y:V) (bl:List (Nat × Option aJ)) (kw:V->List (Nat × Option aJ)->Option β):Option β:=J6 y bl fun new =>
 if sized size new = true then
   match x with
   | .nil=>bC bl d fun b=>fU b (if new.length * bytes <= 140737488355328 then kw (.own d 0) [(d,some (.rows 0 e size new))] else none)
   | .own id ver=>bC bl id fun b=>match b with
    | some (.rows v e' size' rows)=>if ver = v ∧ e' = e ∧ size' = size ∧ (rows.length + new.length) * bytes <= 140737488355328 then kw (.own id (ver + 1)) [(id,some (.rows (ver + 1) e size (rows ++ new)))] else none
    | _=>none
   | _=>none
   else none
theorem aB2 (e size bytes:Nat) (x y:bL):rI T d (.append e size bytes x y) fr bl k kw = bW fr x fun a=>bW fr y fun b=>SV e size bytes d a b bl kw:=by
 unfold rI bW SV J6 bC fU
 simp only [cE]
 generalize bJ (lk fr .any) x = v
 cases fV (lk bl none) (bJ (lk fr .any) y) with
 | none=>rfl
 | some new =>
  simp only [Option.bind_some]
  by_cases hs:sized size new = true
  ·rw [if_pos hs,if_pos hs]
   cases v with
   | nil =>
    simp only
    cases lk bl none d with
    | none =>
     simp only
     by_cases h:new.length * bytes <= 140737488355328
     ·rw [if_pos h,if_pos h]
     ·rw [if_neg h,if_neg h]
    | some b=>rfl
   | own id ver =>
    simp only
    generalize lk bl none id = b
    cases b with
    | none=>rfl
    | some b=>cases b with
     | rows v e' size' rows =>
      simp only
      by_cases h:ver = v ∧ e' = e ∧ size' = size ∧ (rows.length + new.length) * bytes <= 140737488355328
      ·rw [if_pos h,if_pos h]
      ·rw [if_neg h,if_neg h]
     | _=>rfl
   | _=>rfl
  ·rw [if_neg hs,if_neg hs]
def SD {α:Type} (e size bytes d:Nat) (x:V) (c:α->List D) (ys:List α) (bl:List (Nat × Option aJ)) (kw:V->List (Nat × Option aJ)->Option β):Option β:=match x with
   | .nil=>bC bl d fun b=>fU b (if ys.length * bytes <= 140737488355328 then kw (.own d 0) [(d,some (.rows 0 e size (cM c ys)))] else none)
   | .own id ver=>bC bl id fun b=>match b with
    | some (.rows v e' size' rows)=>if ver = v ∧ e' = e ∧ size' = size ∧ (rows.length + ys.length) * bytes <= 140737488355328 then kw (.own id (ver + 1)) [(id,some (.rows (ver + 1) e size (rows ++ cM c ys)))] else none
    | _=>none
   | _=>none
theorem aFs {α:Type} (e size bytes d:Nat) (x y:V) (c:α->List D) (ys:List α) (hy:∀ k' : List (List D)->Option β,J6 y bl k' = k' (cM c ys)) (hs:sized size (cM c ys) = true):SV e size bytes d x y bl kw = SD e size bytes d x c ys bl kw:=by
 unfold SV SD
 rw [hy,if_pos hs,vG]
theorem WF {α:Type} (e size bytes d:Nat) (x:V) (c:α->List D) (ys:List α) (hs:sized size (cM c ys) = true):SV e size bytes d x (.d (.sl (cM c ys))) bl kw = SD e size bytes d x c ys bl kw:=aFs e size bytes d x _ c ys (fun _=>rfl) hs
def Z7 (e size bytes d:Nat) (x:V) (ver:Nat) (b:Option aJ) (bl:List (Nat × Option aJ)) (kw:V->List (Nat × Option aJ)->Option β):Option β:=G1 ver b fun new=>SV e size bytes d x (.d (.sl new)) bl kw
theorem aIg (e size bytes d id ver:Nat) (x:V):SV e size bytes d x (.own id ver) bl kw = bC bl id fun b=>Z7 e size bytes d x ver b bl kw:=by
 show SV e size bytes d x (.own id ver) bl kw = G1 ver (lk bl none id) fun new=>SV e size bytes d x (.d (.sl new)) bl kw
 unfold SV
 rw [UZ]
 rfl
theorem aBg {α:Type} (e size bytes d v e' s' : Nat) (x:V) (c:α->List D) (ys:List α) (hs:sized size (cM c ys) = true):Z7 e size bytes d x v (some (.rows v e' s' (cM c ys))) bl kw = SD e size bytes d x c ys bl kw:=by
 unfold Z7
 rw [OZ,WF _ _ _ _ _ _ _ hs]
theorem aBw {α:Type} (e size bytes d v:Nat) (x:V) (c:α->List D) (ys:List α) (hs:sized size (cM c ys) = true):Z7 e size bytes d x v (some (.froz v (cM c ys))) bl kw = SD e size bytes d x c ys bl kw:=by
 unfold Z7
 rw [OR,WF _ _ _ _ _ _ _ hs]
theorem aFO {α:Type} (e size bytes d:Nat) (c:α->List D) (ys:List α):SD e size bytes d .nil c ys bl kw = bC bl d fun b=>fU b (if ys.length * bytes <= 140737488355328 then kw (.own d 0) [(d,some (.rows 0 e size (cM c ys)))] else none):=rfl
def aHU {α:Type} (e size bytes id ver:Nat) (c:α->List D) (ys:List α) (b:Option aJ) (kw:V->List (Nat × Option aJ)->Option β):Option β:=match b with
    | some (.rows v e' size' rows)=>if ver = v ∧ e' = e ∧ size' = size ∧ (rows.length + ys.length) * bytes <= 140737488355328 then kw (.own id (ver + 1)) [(id,some (.rows (ver + 1) e size (rows ++ cM c ys)))] else none
    | _=>none
theorem aFd {α:Type} (e size bytes d id ver:Nat) (c:α->List D) (ys:List α):SD e size bytes d (.own id ver) c ys bl kw = bC bl id fun b=>aHU e size bytes id ver c ys b kw:=rfl
theorem aAV {α:Type} (e size bytes id v:Nat) (c:α->List D) (xs ys:List α):aHU e size bytes id v c ys (some (.rows v e size (cM c xs))) kw = if (xs.length + ys.length) * bytes <= 140737488355328 then kw (.own id (v + 1)) [(id,some (.rows (v + 1) e size (cM c (xs ++ ys))))] else none:=by
 simp only [aHU,true_and,vG,aF3]
def M5 (e:Nat) (rows:List (List D)) (k:List (List D)->Option β):Option β:=k rows
def L3 (v:V) (bl:List (Nat × Option aJ)) (k:List D->List (Nat × Option aJ)->Option β):Option β:=match aM (iN (lk bl none)) v.cells with
 | some row=>k row (vT (lk bl none) v)
 | none=>none
end
section
end
end
end Vm
end Go.Proofs.Ytgjcnbgfaimepaa
