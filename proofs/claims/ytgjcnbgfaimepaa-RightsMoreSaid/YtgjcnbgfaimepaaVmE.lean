/- The small machine's code, read from the front: what is left to do stands in a continuation. Equations by which the small machine's code is read (they are named in the proofs that a program prints). The small machine, read from the front by rewriting at the head only: every value is looked up before it is used. -/
import Derived.Test.YtgjcnbgfaimepaaVmD
set_option linter.unusedVariables false
set_option linter.unusedSimpArgs false
namespace Go.Proofs.Ytgjcnbgfaimepaa
namespace Vm
open Go.RowKit
section
variable {β:Type}
noncomputable def bR (T:vA) (c:aH) (s:St) (k:Ex->St->Option β):Option β:=(ev T c s).bind fun p=>k p.1 p.2
noncomputable def sL (T:vA) (l:List aM) (s:St) (k:St->Option β):Option β:=(hJ (call T) l s).bind k
noncomputable def aNC (T:vA) (l:List aM) (ps:List (Nat × Nat)) (s:St) (k:St->Option β):Option β:=(eX (call T) l (some ps) s).bind k
def FH (r:IG) (k:V->List (Nat × Option aI)->Option β):Option β:=match r with
 | some (v,wr)=>k v wr
 | none=>none
def KJ (v:V) (x y:Option β):Option β:=match v with
 | .d (.bool b)=>if b = true then x else y
 | _=>none
def aMG (k1:St->Option β) (k:Ex->St->Option β):Ex->St->Option β
 | .normal,s=>k1 s
 | e,s=>k e s
def PU (id:Nat) (k:Ex->St->Option β):Ex->St->Option β
 | .exit id',s=>if id' = id then k .normal s else k (.exit id') s
 | e,s=>k e s
def VZ (m:sD) (k:Ex->St->Option β):Ex->St->Option β
 | .normal,s=>k .normal (m.app s)
 | e,s=>k e s
theorem xJ {v v' : V} {x y:Option β} (h:v = v'):KJ v x y = KJ v' x y:=by rw [h]
theorem aE0 (v:V) (wr:List (Nat × Option aI)) (k:V->List (Nat × Option aI)->Option β):FH (some (v,wr)) k = k v wr:=rfl
theorem aBw (b:Bool) (x y:Option β):KJ (.d (.bool b)) x y = if b = true then x else y:=rfl
variable {T:vA} {k:Ex->St->Option β}
theorem aJX (s:St):bR T .skip s k = k .normal s:=by unfold bR; rw [aNU]; rfl
theorem aIU (id:Nat) (s:St):bR T (.exit id) s k = k (.exit id) s:=by unfold bR; rw [aOE]; rfl
theorem aOn (s:St):bR T .ret s k = k .ret s:=by unfold bR; rw [aP7]; rfl
theorem aBy (l:List aM) (s:St):bR T (.region l none) s k = sL T l s (k .normal):=by
 unfold bR sL
 rw [SV]
 simp only [eX]
 cases hJ (call T) l s <;> rfl
theorem aHI (l:List aM) (ps:List (Nat × Nat)) (s:St):bR T (.region l (some ps)) s k = aNC T l ps s (k .normal):=by
 unfold bR aNC
 rw [SV]
 cases eX (call T) l (some ps) s <;> rfl
theorem aNf (a b:aH) (s:St):bR T (.seq a b) s k = bR T a s (aMG (fun s'=>bR T b s' k) k):=by
 unfold bR
 rw [aPW]
 cases ev T a s with
 | none=>rfl
 | some r =>
  obtain ⟨e,s'⟩:=r
  cases e <;> rfl
theorem aG9 (c:bD) (a b:aH) (s:St):bR T (.cond c a b) s k = KJ (bC s.get c) (bR T a s k) (bR T b s k):=by
 unfold bR
 rw [aLC]
 generalize bC s.get c = v
 cases v with
 | d x=>cases x with
  | bool b=>cases b <;> rfl
  | _=>rfl
 | _=>rfl
theorem aFZ (id:Nat) (a:aH) (s:St):bR T (.block id a) s k = bR T a s (PU id k):=by
 unfold bR
 rw [aHl]
 cases ev T a s with
 | none=>rfl
 | some r =>
  obtain ⟨e,s'⟩:=r
  cases e with
  | normal=>rfl
  | exit i =>
   simp only [Option.bind_some,PU]
   by_cases h:i = id
   ·simp [h]
   ·simp [h]
  | ret=>rfl
theorem aMP (m:sD) (a:aH) (s:St):bR T (.pre m a) s k = bR T a (m.app s) k:=rfl
theorem aIQ (m:sD) (a:aH) (s:St):bR T (.post a m) s k = bR T a s (VZ m k):=by
 unfold bR
 rw [aMI]
 cases ev T a s with
 | none=>rfl
 | some r =>
  obtain ⟨e,s'⟩:=r
  cases e <;> rfl
theorem aZ {S X:Type} {step:S->Option (S ⊕ X)} {c:aH} (enc:S->St) (out:X->Ex × St) (hout:∀ x s,out x ≠ (.normal,s))
  (h:∀ s,bR T c (enc s) (fun e s'=>some (e,s')) = cH enc out (step s)) (s:S) :
  bR T (.loop c) (enc s) k = (dO step s).bind fun x=>k (out x).1 (out x).2:=by
 unfold bR
 rw [aJW enc out hout (fun s=>by
  have:=h s
  unfold bR at this
  rw [← this]
  cases ev T c (enc s) <;> rfl) s]
 cases dO step s <;> rfl
theorem aMi (ops:List aM) (args:List bD) (dst:Option Nat) (f:Nat) (body:aH) (res:List jI) (id:Nat) (slots:List Nat) (s:St) :
  bR T (.inl ops args dst f body res id slots) s k = sL T ops s fun s1=>(SE args id slots s1).bind fun s2=>bR T body s2 fun ex s3=>match ex with
   | .exit _=>none
   | _=>(kI dst res id slots s3).bind fun s4=>k .normal s4:=by
 unfold bR sL
 rw [aQw]
 cases hJ (call T) ops s with
 | none=>rfl
 | some s1 =>
  simp only [Option.bind_some]
  cases SE args id slots s1 with
  | none=>rfl
  | some s2 =>
   simp only [Option.bind_some]
   cases ev T body s2 with
   | none=>rfl
   | some q =>
    obtain ⟨e,s3⟩:=q
    cases e with
    | normal=>simp only [Option.bind_some]; cases kI dst res id slots s3 <;> rfl
    | exit i=>rfl
    | ret=>simp only [Option.bind_some]; cases kI dst res id slots s3 <;> rfl
theorem aPN (k1:St->Option β) (k:Ex->St->Option β) (s:St):aMG k1 k .normal s = k1 s:=rfl
theorem aQP (k1:St->Option β) (k:Ex->St->Option β) (i:Nat) (s:St):aMG k1 k (.exit i) s = k (.exit i) s:=rfl
theorem aQq (k1:St->Option β) (k:Ex->St->Option β) (s:St):aMG k1 k .ret s = k .ret s:=rfl
theorem aJo (id:Nat) (k:Ex->St->Option β) (s:St):PU id k .normal s = k .normal s:=rfl
theorem aKt (id:Nat) (k:Ex->St->Option β) (i:Nat) (s:St):PU id k (.exit i) s = if i = id then k .normal s else k (.exit i) s:=rfl
theorem aIZ (id:Nat) (k:Ex->St->Option β) (s:St):PU id k .ret s = k .ret s:=rfl
theorem aMV (m:sD) (k:Ex->St->Option β) (s:St):VZ m k .normal s = k .normal (m.app s):=rfl
theorem aOe (m:sD) (k:Ex->St->Option β) (i:Nat) (s:St):VZ m k (.exit i) s = k (.exit i) s:=rfl
theorem aMB (m:sD) (k:Ex->St->Option β) (s:St):VZ m k .ret s = k .ret s:=rfl
theorem aHi (s:St) (k:St->Option β):sL T [] s k = k s:=rfl
theorem SK (d:Option Nat) (op:eZ) (st:Nat) (l:List aM) (s:St) (k:St->Option β) :
  sL T (⟨d,op,none,st⟩ :: l) s k = FH (bZ (call T) st (bC s.get) s.blk op) fun v wr=>sL T l (s.put d v wr) k:=by
 unfold sL FH
 simp only [hJ,xI,aM.wants]
 cases bZ (call T) st (bC s.get) s.blk op with
 | none=>rfl
 | some r=>rfl
noncomputable def lI (T:vA):List aM->St->List Fp->(St->List Fp->Option β)->Option β
 | [],s,fp,k=>k s fp
 | o :: l,s,fp,k=>match iX (call T) o s with
  | some (s',p)=>lI T l s' (p :: fp) k
  | none=>none
theorem aHV (l:List aM) (s:St) (fp:List Fp) (k:St->List Fp->Option β):lI T l s fp k = (iF (call T) l s).bind fun r=>k r.1 (r.2.reverse ++ fp):=by
 induction l generalizing s fp with
 | nil=>rfl
 | cons o l ih =>
  simp only [lI,iF]
  cases iX (call T) o s with
  | none=>rfl
  | some q =>
   obtain ⟨s',p⟩:=q
   simp only [ih]
   cases iF (call T) l s' with
   | none=>rfl
   | some r=>obtain ⟨s'',ps⟩:=r; simp
def aNv (l:List aM) (ps:List (Nat × Nat)) (k:St->Option β) (s:St) (fp:List Fp):Option β:=if KT l fp.reverse ps = true then k s else none
theorem aNR (l:List aM) (ps:List (Nat × Nat)) (s:St) (k:St->Option β):aNC T l ps s k = lI T l s [] (aNv l ps k):=by
 rw [aHV]
 unfold aNC
 simp only [eX]
 cases iF (call T) l s with
 | none=>rfl
 | some r =>
  obtain ⟨s',fp⟩:=r
  simp only [Option.bind_some,aNv,List.append_nil,List.reverse_reverse]
  cases h:KT l fp ps <;> simp
theorem QR (d:Option Nat) (op:eZ) (st:Nat) (l:List aM) (s:St) (fp:List Fp) (k:St->List Fp->Option β) :
  lI T (⟨d,op,none,st⟩ :: l) s fp k = FH (bZ (call T) st (bC s.get) s.blk op) fun v wr=>lI T l (s.put d v wr) (wZ ⟨d,op,none,st⟩ s.get s.blk wr :: fp) k:=by
 unfold FH
 simp only [lI,iX,aM.wants]
 cases bZ (call T) st (bC s.get) s.blk op with
 | none=>rfl
 | some r=>rfl
theorem B7 (fr:List (Nat × V)) (bl:List (Nat × Option aI)) (t:Nat):St.get ⟨fr,bl⟩ t = lk fr .any t:=rfl
theorem L9 (fr:List (Nat × V)) (bl:List (Nat × Option aI)) (i:Nat):St.blk ⟨fr,bl⟩ i = lk bl none i:=rfl
theorem aSn (live keep:List Nat) (p:Nat × Nat × Nat × Nat) (l:List (Nat × Nat × Nat × Nat)) (c:List (Nat × Nat × Nat × Nat × Nat)) (ft:List Nat) (fc:List (Nat × Nat)) (s:St):sD.app ⟨live,keep,p :: l,c,ft,fc⟩ s = sD.app ⟨live,keep,l,c,ft,fc⟩ (mkT p s):=rfl
theorem aR1 (live keep:List Nat) (p:Nat × Nat × Nat × Nat × Nat) (c:List (Nat × Nat × Nat × Nat × Nat)) (ft:List Nat) (fc:List (Nat × Nat)) (s:St):sD.app ⟨live,keep,[],p :: c,ft,fc⟩ s = sD.app ⟨live,keep,[],c,ft,fc⟩ (mkC p s):=rfl
theorem aPJ (live keep:List Nat) (p:Nat) (ft:List Nat) (fc:List (Nat × Nat)) (s:St):sD.app ⟨live,keep,[],[],p :: ft,fc⟩ s = sD.app ⟨live,keep,[],[],ft,fc⟩ (LR p s):=rfl
theorem aPy (live keep:List Nat) (p:Nat × Nat) (fc:List (Nat × Nat)) (s:St):sD.app ⟨live,keep,[],[],[],p :: fc⟩ s = sD.app ⟨live,keep,[],[],[],fc⟩ (frC p s):=rfl
end
end Vm
end Go.Proofs.Ytgjcnbgfaimepaa
namespace Go.Proofs.Ytgjcnbgfaimepaa
namespace Vm
open Go.RowKit
def at? {α:Type} (xs:List α) (n:Int):Option α:=if 0 <= n then xs[n.toNat]? else none
def cI (n:Int):List D:=[.int .i64 n]
def cB (b:Bool):List D:=[.bool b]
def cS (s:ByteArray):List D:=[.str s]
def cK (k:IntKind) (n:Int):List D:=[.int k n]
def cM {α:Type} (c:α->List D) (xs:List α):List (List D):=xs.map c
def cL {α:Type} (c:α->List D) (xs:List α):List D:=[.sl (cM c xs)]
def j8 {α:Type} (xs:List α) (l h:Int):List α:=(xs.take h.toNat).drop l.toNat
def i5 (n:Nat) (l h:Int):Prop:=0 <= l ∧ l <= h ∧ h.toNat <= n
instance (n:Nat) (l h:Int):Decidable (i5 n l h):=inferInstanceAs (Decidable (_ ∧ _ ∧ _))
def sAt (s:ByteArray) (n:Int):Option Int:=if 0 <= n then s[n.toNat]?.map fun b=>(b.toNat:Int) else none
section
variable {β:Type} {T:vA} {site:Nat} {ev:bD->V} {bl:Nat->Option aI} (k:V->List (Nat × Option aI)->Option β)
def VL (size:Nat) (x i:V) (bl:Nat->Option aI):IG:=match i with
  | .d (.int _ n)=>match x with
   | .own id ver=>match bl id with
    | some (.rows v e sz rows)=>if ver = v ∧ sz = size ∧ 0 <= n ∧ n.toNat < rows.length then some (.orow id ver n.toNat 0,[]) else none
    | some (.froz v rows)=>if ver = v ∧ 0 <= n then match rows[n.toNat]? with
     | some row=>if row.length = size then some (.d (.ptr row 0),[]) else none
     | none=>none
     else none
    | _=>none
   | .d (.sl rows)=>if 0 <= n then match rows[n.toNat]? with
    | some row=>if row.length = size then some (.d (.ptr row 0),[]) else none
    | none=>none
    else none
   | _=>none
  | _=>none
theorem RE (C:Nat->List D->Option D) (size:Nat) (x i:bD):bZ C site ev bl (.indexAddr size x i) = VL size (ev x) (ev i) bl:=rfl
theorem aNm {α:Type} (size:Nat) (c:α->List D) (xs:List α) (kd:IntKind) (n:Int) (bl:Nat->Option aI):FH (VL size (.d (.sl (cM c xs))) (.d (.int kd n)) bl) k = (at? xs n).bind fun x=>if (c x).length = size then k (.d (.ptr (c x) 0)) [] else none:=by
 simp only [VL,at?,cM]
 by_cases h:0 <= n
 ·rw [if_pos h,if_pos h,List.getElem?_map]
  cases xs[n.toNat]? with
  | none=>rfl
  | some x =>
   simp only [Option.map_some,Option.bind_some]
   by_cases h2:(c x).length = size
   ·rw [if_pos h2,if_pos h2]; rfl
   ·rw [if_neg h2,if_neg h2]; rfl
 ·rw [if_neg h,if_neg h]; rfl
def aK3 (size id ver:Nat) (n:Int) (b:Option aI):IG:=match b with
 | some (.rows v e sz rows)=>if ver = v ∧ sz = size ∧ 0 <= n ∧ n.toNat < rows.length then some (.orow id ver n.toNat 0,[]) else none
 | some (.froz v rows)=>if ver = v ∧ 0 <= n then match rows[n.toNat]? with
  | some row=>if row.length = size then some (.d (.ptr row 0),[]) else none
  | none=>none
  else none
 | _=>none
theorem aEd (size id ver v e sz:Nat) (n:Int) (rows:List (List D)) (k:V->List (Nat × Option aI)->Option β):FH (aK3 size id ver n (some (.rows v e sz rows))) k = if ver = v then (if sz = size then (if 0 <= n ∧ n.toNat < rows.length then k (.orow id ver n.toNat 0) [] else none) else none) else none:=by
 simp only [aK3]
 by_cases h1:ver = v
 ·by_cases h2:sz = size
  ·by_cases h3:0 <= n ∧ n.toNat < rows.length
   ·rw [if_pos ⟨h1,h2,h3⟩,if_pos h1,if_pos h2,if_pos h3]; rfl
   ·rw [if_neg (fun q=>h3 q.2.2),if_pos h1,if_pos h2,if_neg h3]; rfl
  ·rw [if_neg (fun q=>h2 q.2.1),if_pos h1,if_neg h2]; rfl
 ·rw [if_neg (fun q=>h1 q.1),if_neg h1]; rfl
theorem aGE {α:Type} (size id ver v:Nat) (n:Int) (c:α->List D) (xs:List α) (k:V->List (Nat × Option aI)->Option β):FH (aK3 size id ver n (some (.froz v (cM c xs)))) k = if ver = v then ((at? xs n).bind fun x=>if (c x).length = size then k (.d (.ptr (c x) 0)) [] else none) else none:=by
 simp only [aK3,at?,cM]
 by_cases h1:ver = v
 ·by_cases h:0 <= n
  ·rw [if_pos ⟨h1,h⟩,if_pos h1,if_pos h,List.getElem?_map]
   cases xs[n.toNat]? with
   | none=>rfl
   | some x =>
    simp only [Option.map_some,Option.bind_some]
    by_cases h2:(c x).length = size
    ·rw [if_pos h2,if_pos h2]; rfl
    ·rw [if_neg h2,if_neg h2]; rfl
  ·rw [if_neg (fun q=>h q.2),if_pos h1,if_neg h]; rfl
 ·rw [if_neg (fun q=>h1 q.1),if_neg h1]; rfl
def YL (size:Nat) (isAgg:Bool) (off:Nat) (row:List D):IG :=
 if isAgg then (if off + size <= row.length then some (.agg (((row.drop off).take size).map .d),[]) else none) else row[off]?.map fun v=>(.d v,[])
def aDj (size:Nat) (isAgg:Bool) (off:Nat) (b:Option aI):IG:=match b with
 | some (.box cs) =>
  if isAgg then (if off + size <= cs.length then some (.agg ((cs.drop off).take size),[]) else none)
  else cs[off]?.map fun v=>(v,[])
 | some (.fbox row)=>YL size isAgg off row
 | _=>none
def aHy (size:Nat) (isAgg:Bool) (ver i off:Nat) (b:Option aI):IG:=match b with
 | some (.rows v e sz rows)=>if ver = v then match rows[i]? with
  | some row=>YL size isAgg off row
  | none=>none
  else none
 | _=>none
def LA (size:Nat) (isAgg:Bool) (x:V) (bl:Nat->Option aI):IG:=match x with
 | .ptr id off=>aDj size isAgg off (bl id)
 | .d (.ptr row off)=>YL size isAgg off row
 | .orow id ver i off=>aHy size isAgg ver i off (bl id)
 | _=>none
theorem FY (C:Nat->List D->Option D) (size:Nat) (isAgg:Bool) (x:bD):bZ C site ev bl (.load size isAgg x) = LA size isAgg (ev x) bl:=rfl
theorem aFD (size:Nat) (isAgg:Bool) (id off:Nat) (bl:Nat->Option aI):LA size isAgg (.ptr id off) bl = aDj size isAgg off (bl id):=rfl
theorem aNj (size:Nat) (isAgg:Bool) (id ver i off:Nat) (bl:Nat->Option aI):LA size isAgg (.orow id ver i off) bl = aHy size isAgg ver i off (bl id):=rfl
theorem aLA (size off:Nat) (cs:List V):aDj size true off (some (.box cs)) = if off + size <= cs.length then some (.agg ((cs.drop off).take size),[]) else none:=rfl
theorem aNQ (size off:Nat) (cs:List V):aDj size false off (some (.box cs)) = cs[off]?.map fun v=>(v,[]):=rfl
def OR (size ver i off id:Nat) (fz:List (Nat × Option aI)) (ds:Option (List D)) (b:Option aI):IG:=match b with
 | some (.rows w e sz rows)=>if ver = w then match rows[i]?,ds with
  | some row,some ds=>if ds.length = size ∧ off + size <= row.length ∧ AR id fz = true then some (.any,(id,some (.rows w e sz (rows.set i (hZ row off ds)))) :: fz) else none
  | _,_=>none
  else none
 | _=>none
def ZQ (size off id:Nat) (v:V) (b:Option aI):IG:=match b with
 | some (.box cs)=>if v.cells.length = size ∧ off + size <= cs.length ∧ v.known = true then some (.any,[(id,some (.box (hZ cs off v.cells)))]) else none
 | _=>none
def aBR (size:Nat) (x v:V) (bl:Nat->Option aI):IG:=match x with
 | .ptr id off=>ZQ size off id v (bl id)
 | .orow id ver i off=>OR size ver i off id (u3 bl v) (aK (iA bl) v.cells) (bl id)
 | _=>none
theorem aFH (C:Nat->List D->Option D) (size:Nat) (x v:bD):bZ C site ev bl (.store size x v) = aBR size (ev x) (ev v) bl:=rfl
theorem aII (size id off:Nat) (v:V) (bl:Nat->Option aI):aBR size (.ptr id off) v bl = ZQ size off id v (bl id):=rfl
theorem aJ9 (size id ver i off:Nat) (v:V) (bl:Nat->Option aI):aBR size (.orow id ver i off) v bl = OR size ver i off id (u3 bl v) (aK (iA bl) v.cells) (bl id):=rfl
theorem aBN (size off id:Nat) (v:V) (cs:List V):ZQ size off id v (some (.box cs)) = if v.cells.length = size ∧ off + size <= cs.length ∧ v.known = true then some (.any,[(id,some (.box (hZ cs off v.cells)))]) else none:=rfl
theorem aF6 (C:Nat->List D->Option D) (size:Nat) (x:bD) (lo hi:Option bD):bZ C site ev bl (.slice size x lo hi) = vQ bl size (ev x) (lo.map ev) (hi.map ev):=rfl
def aKB (ver:Nat) (b:Option aI):Option (List (List D)):=match b with
 | some (.rows v _ _ rows)=>if ver = v then some rows else none
 | some (.froz v rows)=>if ver = v then some rows else none
 | _=>none
def B1 (v:Option V) (d:Int):Option Int:=match v with
 | none=>some d
 | some (.d (.int _ h))=>some h
 | _=>none
theorem aEv {α:Type} (size:Nat) (c:α->List D) (xs:List α) (lo hi:Option V) (l h:Int) (hl:B1 lo 0 = some l) (hh:B1 hi (xs.length:Int) = some h) (hs:sized size (cM c xs) = true) (bl:Nat->Option aI):FH (vQ bl size (.d (.sl (cM c xs))) lo hi) k = if i5 xs.length l h then k (.d (.sl (cM c (j8 xs l h)))) [] else none:=by
 have e0:∀ lo' hi',vQ bl size (.d (.sl (cM c xs))) lo' hi' = (match B1 hi' ((cM c xs).length:Int),B1 lo' 0 with
   | some h,some l=>if 0 <= l ∧ l <= h ∧ h.toNat <= (cM c xs).length ∧ sized size (cM c xs) = true then some (.d (.sl (((cM c xs).take h.toNat).drop l.toNat)),[]) else none
   | _,_=>none):=fun lo' hi'=>rfl
 rw [e0,show ((cM c xs).length:Int) = (xs.length:Int) by simp [cM],hl,hh]
 simp only [show (cM c xs).length = xs.length by simp [cM]]
 by_cases q:i5 xs.length l h
 ·rw [if_pos q,if_pos ⟨q.1,q.2.1,q.2.2,hs⟩]
  simp only [aE0,cM,j8,List.map_drop,List.map_take]
 ·rw [if_neg q,if_neg (fun w=>q ⟨w.1,w.2.1,w.2.2.1⟩)]; rfl
def GQ (x i:V):IG:=match x,i with
  | .d (.str s),.d (.int _ n)=>if 0 <= n then match s[n.toNat]? with
   | some b=>some (.d (.int .u8 b.toNat),[])
   | none=>none
   else none
  | _,_=>none
theorem aDP (C:Nat->List D->Option D) (x i:bD):bZ C site ev bl (.index x i) = GQ (ev x) (ev i):=rfl
theorem aJx (s:ByteArray) (kd:IntKind) (n:Int):FH (GQ (.d (.str s)) (.d (.int kd n))) k = (sAt s n).bind fun b=>k (.d (.int .u8 b)) []:=by
 simp only [GQ,sAt]
 split
 ·cases s[n.toNat]? <;> rfl
 ·rfl
end
section
variable {S X:Type} {enc:S->St} {out:X->Ex × St}
theorem aFL (c:Prop) [Decidable c] (a b:Option (S ⊕ X)):cH enc out (if c then a else b) = if c then cH enc out a else cH enc out b:=by split <;> rfl
theorem aAw {α:Type} (o:Option α) (f:α->Option (S ⊕ X)):cH enc out (o.bind f) = o.bind fun x=>cH enc out (f x):=by cases o <;> rfl
theorem aB7:cH enc out none = none:=rfl
theorem aDG (s:S):cH enc out (some (.inl s)) = some (.normal,enc s):=rfl
theorem aEu (x:X):cH enc out (some (.inr x)) = some (out x):=rfl
end
theorem pZ {α:Type} (size:Nat) (c:α->List D) (hc:∀ x,(c x).length = size) (xs:List α):sized size (cM c xs) = true:=by
 simp [sized,cM,hc]
theorem aJj (xs:List Int):sized 1 (cM cI xs) = true:=pZ _ _ (fun x=>by rfl) xs
theorem aKF (k:IntKind) (xs:List Int):sized 1 (cM (cK k) xs) = true:=pZ _ _ (fun x=>by rfl) xs
theorem WQ (xs:List Bool):sized 1 (cM cB xs) = true:=pZ _ _ (fun x=>by rfl) xs
theorem aKs (xs:List ByteArray):sized 1 (cM cS xs) = true:=pZ _ _ (fun x=>by rfl) xs
theorem aIK {α:Type} (c:α->List D) (xs:List (List α)):sized 1 (cM (cL c) xs) = true:=pZ _ _ (fun x=>by rfl) xs
theorem uK {α:Type} (c:α->List D) (xs:List α):(cM c xs).length = xs.length:=by simp [cM]
theorem aE8 {α:Type} (c:α->List D) (xs ys:List α):cM c xs ++ cM c ys = cM c (xs ++ ys):=by simp [cM]
theorem aQL {α:Type} (c:α->List D) (xs:List α) (i:Nat) (x:α):cM c (xs.set i x) = (cM c xs).set i (c x):=by simp [cM,List.map_set]
theorem VG {α:Type} (c:α->List D) (n:Nat) (x:α):cM c (List.replicate n x) = List.replicate n (c x):=by simp [cM]
theorem aJM {α γ:Type} (c:Prop) [Decidable c] (a b:Option α) (f:α->Option γ):(if c then a else b).bind f = if c then a.bind f else b.bind f:=by split <;> rfl
theorem aNJ {α γ:Type} (c:Prop) [Decidable c] (a b:Option α) (f:α->γ):(if c then a else b).map f = if c then a.map f else b.map f:=by split <;> rfl
theorem bind_map {α γ δ:Type} (o:Option α) (f:α->Option γ) (g:γ->δ):(o.bind f).map g = o.bind fun x=>(f x).map g:=by cases o <;> rfl
theorem aDH {α γ:Type} (f:α->Option γ):(none:Option α).bind f = none:=rfl
theorem aGn {α γ δ ε:Type} (f:α->Option δ) (g:γ->Option δ) (x:α ⊕ γ) (h:δ->Option ε):(Sum.elim f g x).bind h = Sum.elim (fun y=>(f y).bind h) (fun y=>(g y).bind h) x:=by cases x <;> rfl
theorem aHv {α γ δ ε:Type} (f:α->Option δ) (g:γ->Option δ) (x:α ⊕ γ) (h:δ->ε):(Sum.elim f g x).map h = Sum.elim (fun y=>(f y).map h) (fun y=>(g y).map h) x:=by cases x <;> rfl
def gIf {α:Type} (b:Bool) (x y:α):α:=if b = true then x else y
theorem aI4 {α:Type} (b:Bool) (x y:α):gIf b x y = if b = true then x else y:=rfl
theorem ZL {S X α γ:Type} {enc:S->St} {out:X->Ex × St} (f:α->Option (S ⊕ X)) (g:γ->Option (S ⊕ X)) (x:α ⊕ γ):cH enc out (Sum.elim f g x) = Sum.elim (fun y=>cH enc out (f y)) (fun y=>cH enc out (g y)) x:=by cases x <;> rfl
def aSM (sf:cY):Ex->St->Option D
 | .normal,s=>FX sf s
 | .ret,s=>FX sf s
 | .exit _,_=>none
theorem ZF {T:vA} {f:Nat} {sf:cY} (hf:T f = some (.code sf)) (ds:List D) (hl:ds.length = sf.np) (hlt:iU 0 ds = none):Vm.call T f ds = bR T sf.body ⟨m6 0 ds,[]⟩ (aSM sf):=by
 rw [aLb hf ds hl hlt]
 unfold bR
 cases Vm.ev T sf.body ⟨m6 0 ds,[]⟩ with
 | none=>rfl
 | some q =>
  obtain ⟨e,s⟩:=q
  cases e <;> rfl
theorem aL {α β:Type} (o:Option α) {f g:α->Option β} (h:∀ x,f x = g x):o.bind f = o.bind g:=by rw [funext h]
end Vm
end Go.Proofs.Ytgjcnbgfaimepaa
namespace Go.Proofs.Ytgjcnbgfaimepaa
namespace Vm
open Go.RowKit
section
variable {β:Type}
def gZ (fr:List (Nat × V)) (t:Nat) (k:V->Option β):Option β:=k (lk fr .any t)
def aY (bl:List (Nat × Option aI)) (i:Nat) (k:Option aI->Option β):Option β:=k (lk bl none i)
def bM (fr:List (Nat × V)) (o:bD) (k:V->Option β):Option β:=k (bC (lk fr .any) o)
theorem aGV (t:Nat) (v:V) (fr:List (Nat × V)) (k:V->Option β):gZ ((t,v) :: fr) t k = k v:=by simp [gZ,lk]
theorem aGh (a t:Nat) (v:V) (fr:List (Nat × V)) (k:V->Option β) (h:(t == a) = false):gZ ((a,v) :: fr) t k = gZ fr t k:=by
 have:¬ t = a:=by simpa using h
 simp [gZ,lk,this]
theorem aJL (t:Nat) (k:V->Option β):gZ [] t k = k .any:=rfl
theorem aJS (t:Nat) (v:Option aI) (fr:List (Nat × Option aI)) (k:Option aI->Option β):aY ((t,v) :: fr) t k = k v:=by simp [aY,lk]
theorem aGm (a t:Nat) (v:Option aI) (fr:List (Nat × Option aI)) (k:Option aI->Option β) (h:(t == a) = false):aY ((a,v) :: fr) t k = aY fr t k:=by
 have:¬ t = a:=by simpa using h
 simp [aY,lk,this]
theorem aIh (t:Nat) (k:Option aI->Option β):aY [] t k = k none:=rfl
theorem aOa (bl:List (Nat × Option aI)) (t:Nat) (k:Option aI->Option β):aY ([] ++ bl) t k = aY bl t k:=rfl
theorem aMO (p:Nat × Option aI) (w bl:List (Nat × Option aI)) (t:Nat) (k:Option aI->Option β):aY ((p :: w) ++ bl) t k = aY (p :: (w ++ bl)) t k:=rfl
theorem aQ4 (fr:List (Nat × V)) (t:Nat) (k:V->Option β):bM fr (.t t) k = gZ fr t k:=rfl
theorem aQn (fr:List (Nat × V)) (v:V) (k:V->Option β):bM fr (.c v) k = k v:=rfl
def aQ (ds:List D):List V:=ds.map .d
def kB (ds:List D):V:=.agg (aQ ds)
noncomputable def qL (T:vA) (d:Nat) (op:eZ) (fr:List (Nat × V)) (bl:List (Nat × Option aI)) (k:V->Option β) (kw:V->List (Nat × Option aI)->Option β):Option β :=
 match bZ (call T) d (bC (lk fr .any)) (lk bl none) op with
 | none=>none
 | some (v,[])=>k v
 | some (v,p :: wr)=>kw v (p :: wr)
theorem aDY {T:vA} (d st:Nat) (op:eZ) (l:List aM) (fr:List (Nat × V)) (bl:List (Nat × Option aI)) (k:St->Option β) :
  sL T (⟨some d,op,none,st⟩ :: l) ⟨fr,bl⟩ k = qL T st op fr bl (fun v=>sL T l ⟨(d,v) :: fr,bl⟩ k) (fun v wr=>sL T l ⟨(d,v) :: fr,wr ++ bl⟩ k):=by
 rw [SK]
 unfold qL FH
 show (match bZ (call T) st (bC (lk fr .any)) (lk bl none) op with | some (v,wr)=>_ | none=>none) = _
 cases bZ (call T) st (bC (lk fr .any)) (lk bl none) op with
 | none=>rfl
 | some r=>obtain ⟨v,wr⟩:=r; cases wr <;> rfl
theorem aAf {T:vA} (st:Nat) (op:eZ) (l:List aM) (fr:List (Nat × V)) (bl:List (Nat × Option aI)) (k:St->Option β) :
  sL T (⟨none,op,none,st⟩ :: l) ⟨fr,bl⟩ k = qL T st op fr bl (fun _=>sL T l ⟨fr,bl⟩ k) (fun _ wr=>sL T l ⟨fr,wr ++ bl⟩ k):=by
 rw [SK]
 unfold qL FH
 show (match bZ (call T) st (bC (lk fr .any)) (lk bl none) op with | some (v,wr)=>_ | none=>none) = _
 cases bZ (call T) st (bC (lk fr .any)) (lk bl none) op with
 | none=>rfl
 | some r=>obtain ⟨v,wr⟩:=r; cases wr <;> rfl
def KP (t:Nat) (b:Bool) (op:eZ):eZ:=match op with
 | .pick (.t t') x y=>if t' = t then .move (if b then x else y) else op
 | op=>op
def K8 (t:Nat) (b:Bool) (o:aM):aM:=match o.guard with
 | some (t',w)=>if t' = t then (if w = b then ⟨o.dst,KP t b o.op,none,o.site⟩ else ⟨o.dst,.move (.c (.tup [])),none,o.site⟩) else ⟨o.dst,KP t b o.op,some (t',w),o.site⟩
 | none=>⟨o.dst,KP t b o.op,none,o.site⟩
def AM (t:Nat) (b:Bool):List aM->List aM
 | []=>[]
 | o :: l=>K8 t b o :: (if o.dst = some t then l else AM t b l)
theorem yY {C:Nat->List D->Option D} {site:Nat} {fr:Nat->V} {bl:Nat->Option aI} {t:Nat} {b:Bool} (h:fr t = .d (.bool b)) (op:eZ):bZ C site (bC fr) bl (KP t b op) = bZ C site (bC fr) bl op:=by
 cases op with
 | pick c x y =>
  cases c with
  | t t' =>
   simp only [KP]
   split
   ·rename_i e
    subst e
    simp only [bZ,bC,h]
    cases b <;> rfl
   ·rfl
  | c v=>rfl
 | _=>rfl
theorem aFr {C:Nat->List D->Option D} {s:St} {t:Nat} {b:Bool} (h:s.get t = .d (.bool b)) (o:aM):xI C (K8 t b o) s = xI C o s:=by
 obtain ⟨d,op,g,st⟩:=o
 cases g with
 | some g =>
  obtain ⟨t',w⟩:=g
  simp only [K8]
  split
  ·rename_i e
   subst e
   split
   ·rename_i e
    subst e
    simp only [xI,aM.wants,h,yY h]
    cases w <;> rfl
   ·rename_i e
    simp only [xI,aM.wants,h,bZ,bC]
    cases w <;> cases b <;> simp_all [xD]
  ·simp only [xI,aM.wants,yY h]
 | none=>simp only [K8,xI,aM.wants,yY h]
theorem EJ {s:St} {d:Option Nat} {v:V} {wr:List (Nat × Option aI)} {t:Nat} (h:¬ d = some t):(s.put d v wr).get t = s.get t:=by
 cases d with
 | none=>rfl
 | some a =>
  show lk ((a,v) :: s.fr) .any t = lk s.fr .any t
  have:¬ t = a:=fun e=>h (by rw [e])
  simp [lk,this]
theorem aFR {C:Nat->List D->Option D} {o:aM} {s s' : St} {t:Nat} (h:¬ o.dst = some t) (e:xI C o s = some s'):s'.get t = s.get t:=by
 unfold xI at e
 split at e
 ·split at e
  ·cases e; exact EJ h
  ·cases e
 ·cases e; exact EJ h
 ·cases e
theorem L3 {C:Nat->List D->Option D} {t:Nat} {b:Bool}:∀ (l:List aM) {s:St} (h:s.get t = .d (.bool b)),hJ C (AM t b l) s = hJ C l s
 | [],s,h=>rfl
 | o :: l,s,h=>by
  simp only [AM,hJ,aFr h]
  cases e:xI C o s with
  | none=>rfl
  | some s' =>
   simp only
   split
   ·rfl
   ·rename_i hd
    exact L3 l (by rw [aFR hd e]; exact h)
noncomputable def KB (T:vA) (v:V) (t:Nat) (l:List aM) (s:St) (k:St->Option β):Option β:=match v with
 | .d (.bool b)=>if b = true then sL T (AM t true l) s k else sL T (AM t false l) s k
 | .tup []=>match l with
  | o :: r=>sL T r (s.put o.dst (.tup []) []) k
  | []=>none
 | _=>none
theorem aA4 {T:vA} (d:Option Nat) (op:eZ) (t:Nat) (w:Bool) (st:Nat) (l:List aM) (fr:List (Nat × V)) (bl:List (Nat × Option aI)) (k:St->Option β) :
  sL T (⟨d,op,some (t,w),st⟩ :: l) ⟨fr,bl⟩ k = gZ fr t fun v=>KB T v t (⟨d,op,some (t,w),st⟩ :: l) ⟨fr,bl⟩ k:=by
 show _ = KB T (lk fr .any t) t _ _ k
 generalize hv:lk fr .any t = v
 have bad:∀ (q:xD v w = .bad),sL T (⟨d,op,some (t,w),st⟩ :: l) ⟨fr,bl⟩ k = none:=by
  intro q
  unfold sL
  simp only [hJ,xI,aM.wants]
  rw [show (St.get ⟨fr,bl⟩ t) = v from hv,q]; rfl
 cases v with
 | d x =>
  cases x with
  | bool b =>
   simp only [KB]
   cases b with
   | true=>rw [if_pos rfl]; unfold sL; rw [L3 (t:=t) (b:=true) (s:=⟨fr,bl⟩) _ hv]
   | false=>rw [if_neg (by decide)]; unfold sL; rw [L3 (t:=t) (b:=false) (s:=⟨fr,bl⟩) _ hv]
  | _=>exact bad rfl
 | tup vs =>
  cases vs with
  | nil =>
   simp only [KB]
   unfold sL
   simp only [hJ,xI,aM.wants]
   rw [show (St.get ⟨fr,bl⟩ t) = _ from hv]
   rfl
  | cons x l=>exact bad rfl
 | _=>exact bad rfl
theorem aHx {T:vA} (b:Bool) (t:Nat) (l:List aM) (s:St) (k:St->Option β):KB T (.d (.bool b)) t l s k = if b = true then sL T (AM t true l) s k else sL T (AM t false l) s k:=rfl
theorem aIB {T:vA} (t d st:Nat) (op:eZ) (g:Option (Nat × Bool)) (l:List aM) (fr:List (Nat × V)) (bl:List (Nat × Option aI)) (k:St->Option β):KB T (.tup []) t (⟨some d,op,g,st⟩ :: l) ⟨fr,bl⟩ k = sL T l ⟨(d,.tup []) :: fr,bl⟩ k:=rfl
theorem aF8 {T:vA} (t st:Nat) (op:eZ) (g:Option (Nat × Bool)) (l:List aM) (fr:List (Nat × V)) (bl:List (Nat × Option aI)) (k:St->Option β):KB T (.tup []) t (⟨none,op,g,st⟩ :: l) ⟨fr,bl⟩ k = sL T l ⟨fr,bl⟩ k:=rfl
theorem AH {T:vA} {l l' : List aM} {s:St} {k:St->Option β} (h:l = l'):sL T l s k = sL T l' s k:=by rw [h]
section
variable {T:vA} {d:Nat} {fr:List (Nat × V)} {bl:List (Nat × Option aI)} {k:V->Option β} {kw:V->List (Nat × Option aI)->Option β}
def DH (r:IG) (k:V->Option β) (kw:V->List (Nat × Option aI)->Option β):Option β:=match r with
 | none=>none
 | some (v,[])=>k v
 | some (v,p :: wr)=>kw v (p :: wr)
theorem PC (o:Option D):DH (IG.v o) k kw = o.bind fun x=>k (.d x):=by cases o <;> rfl
theorem aHk:qL T d .fail fr bl k kw = none:=rfl
theorem aJf (x:bD):qL T d (.move x) fr bl k kw = bM fr x k:=rfl
theorem aJs (c a b:bD):qL T d (.pick c a b) fr bl k kw = bM fr c fun v=>KJ v (bM fr a k) (bM fr b k):=by
 unfold qL bM KJ
 simp only [bZ]
 generalize bC (lk fr .any) c = v
 cases v with
 | d x=>cases x with
  | bool b=>cases b <;> rfl
  | _=>rfl
 | _=>rfl
theorem aOB (x y:Option β):KJ (.d (.bool true)) x y = x:=rfl
theorem aNd (x y:Option β):KJ (.d (.bool false)) x y = y:=rfl
def fK (b:Option aI) (x:Option β):Option β:=match b with
 | none=>x
 | some _=>none
theorem aNb (x:Option β):fK none x = x:=rfl
theorem aLI (b:aI) (x:Option β):fK (some b) x = none:=rfl
theorem aFk (z:List V):qL T d (.alloc z) fr bl k kw = aY bl d fun b=>fK b (kw (.ptr d 0) [(d,some (.box z))]):=by
 unfold qL aY fK
 simp only [bZ]
 cases lk bl none d <;> rfl
def uH (v:V) (k:List V->Option β):Option β:=if v.known = true then k v.cells else none
theorem aIg (x:D) (k:List V->Option β):uH (.d x) k = k [.d x]:=rfl
theorem aBk (k:List V->Option β):uH .nil k = k [.nil]:=rfl
theorem aAn (cs:List V) (k:List V->Option β):uH (.agg cs) k = k cs:=rfl
theorem WP (ds:List D) (k:List V->Option β):uH (kB ds) k = k (aQ ds):=rfl
theorem aAY (i o:Nat) (k:List V->Option β):uH (.ptr i o) k = k [.ptr i o]:=rfl
theorem aCd (i o:Nat) (k:List V->Option β):uH (.own i o) k = k [.own i o]:=rfl
theorem VR (i v j o:Nat) (k:List V->Option β):uH (.orow i v j o) k = k [.orow i v j o]:=rfl
theorem ZR (k:List V->Option β):uH .any k = none:=rfl
theorem aMg (x:bD):qL T d (.box x) fr bl k kw = aY bl d fun b=>fK b (bM fr x fun v=>uH v fun cs=>kw (.ptr d 0) [(d,some (.box cs))]):=by
 unfold qL aY fK bM uH
 simp only [bZ]
 cases lk bl none d with
 | none =>
  simp only
  by_cases h:(bC (lk fr .any) x).known = true
  ·rw [if_pos h,if_pos h]
  ·rw [if_neg h,if_neg h]
 | some b=>rfl
def FA (fr:List (Nat × V)):List bD->(List V->Option β)->Option β
 | [],k=>k []
 | x :: l,k=>bM fr x fun v=>FA fr l fun vs=>k (v :: vs)
theorem KK (l:List bD) (k:List V->Option β):FA fr l k = k (l.map (bC (lk fr .any))):=by
 induction l generalizing k with
 | nil=>rfl
 | cons x l ih=>simp only [FA,bM,ih,List.map_cons]
theorem aD4 (k:List V->Option β):FA fr [] k = k []:=rfl
theorem aAj (x:bD) (l:List bD) (k:List V->Option β):FA fr (x :: l) k = bM fr x fun v=>FA fr l fun vs=>k (v :: vs):=rfl
def JK (fr:List (Nat × V)):List (Nat × Nat × bD)->(List (Nat × Nat × V)->Option β)->Option β
 | [],k=>k []
 | (o,s,x) :: l,k=>bM fr x fun v=>JK fr l fun vs=>k ((o,s,v) :: vs)
theorem iH (op:eZ):qL T d op fr bl k kw = DH (bZ (call T) d (bC (lk fr .any)) (lk bl none) op) k kw:=by
 unfold qL DH
 cases bZ (call T) d (bC (lk fr .any)) (lk bl none) op with
 | none=>rfl
 | some r=>obtain ⟨v,wr⟩:=r; cases wr <;> rfl
theorem CT (r:IG):DH r k kw = FH r fun v wr=>match wr with | []=>k v | p :: w=>kw v (p :: w):=by
 cases r with
 | none=>rfl
 | some r=>obtain ⟨v,wr⟩:=r; cases wr <;> rfl
def BM:List V->Nat->(V->Option β)->Option β
 | [],_,_=>none
 | c :: _,0,k=>k c
 | _ :: cs,n + 1,k=>BM cs n k
theorem LN (cs:List V) (n:Nat) (k:V->Option β):BM cs n k = cs[n]?.bind k:=by
 induction cs generalizing n with
 | nil=>rfl
 | cons c cs ih=>cases n with
  | zero=>rfl
  | succ n=>simp only [BM,ih,List.getElem?_cons_succ]
theorem aOS (c:V) (cs:List V) (k:V->Option β):BM (c :: cs) 0 k = k c:=rfl
theorem aM8 (c:V) (cs:List V) (n:Nat) (k:V->Option β):BM (c :: cs) (n + 1) k = BM cs n k:=rfl
def eU (ds:List D) (n:Nat) (k:D->Option β):Option β:=ds[n]?.bind k
def xE (ds:List D) (off size:Nat) (k:List D->Option β):Option β:=if off + size <= ds.length then k ((ds.drop off).take size) else none
def uR (cs:List V) (off size:Nat) (k:List V->Option β):Option β:=if off + size <= cs.length then k ((cs.drop off).take size) else none
theorem aCQ (ds:List D) (n:Nat) (k:V->Option β):BM (aQ ds) n k = eU ds n fun x=>k (.d x):=by
 rw [LN]
 unfold aQ eU
 rw [List.getElem?_map]
 cases ds[n]? <;> rfl
theorem aE3 (cs:List V) (n:Nat) (k:List V->Option β) (h:cs.length = n):uR cs 0 n k = k cs:=by
 subst h
 simp [uR]
theorem aBE (c:V) (cs:List V) (off n:Nat) (k:List V->Option β):uR (c :: cs) (off + 1) n k = uR cs off n k:=by
 unfold uR
 simp only [List.length_cons,List.drop_succ_cons]
 by_cases h:off + n <= cs.length
 ·rw [if_pos h,if_pos (by omega)]
 ·rw [if_neg h,if_neg (by omega)]
theorem aAD (c:V) (cs:List V) (n:Nat) (k:List V->Option β):uR (c :: cs) 0 (n + 1) k = uR cs 0 n fun l=>k (c :: l):=by
 unfold uR
 simp only [List.length_cons,List.drop_zero,List.take_succ_cons]
 by_cases h:0 + n <= cs.length
 ·rw [if_pos h,if_pos (by omega)]
 ·rw [if_neg h,if_neg (by omega)]
theorem aBh (cs:List V) (k:List V->Option β):uR cs 0 0 k = k []:=by simp [uR]
theorem TS (ds:List D) (off n:Nat) (k:List V->Option β):uR (aQ ds) off n k = xE ds off n fun l=>k (aQ l):=by
 unfold uR xE aQ
 simp only [List.length_map,List.map_take,List.map_drop]
def EF (size:Nat) (isAgg:Bool) (off:Nat) (b:Option aI) (k:V->Option β):Option β:=match b with
 | some (.box cs)=>if isAgg = true then uR cs off size fun l=>k (.agg l) else BM cs off k
 | some (.fbox row)=>if isAgg = true then xE row off size fun l=>k (kB l) else eU row off fun x=>k (.d x)
 | _=>none
def QE (size:Nat) (isAgg:Bool) (ver i off:Nat) (b:Option aI) (k:V->Option β):Option β:=match b with
 | some (.rows v e sz rows)=>if ver = v then rows[i]?.bind fun row=>(if isAgg = true then xE row off size fun l=>k (kB l) else eU row off fun x=>k (.d x)) else none
 | _=>none
def xL (size:Nat) (isAgg:Bool) (x:V) (bl:List (Nat × Option aI)) (k:V->Option β):Option β:=match x with
 | .ptr id off=>aY bl id fun b=>EF size isAgg off b k
 | .d (.ptr row off)=>if isAgg = true then xE row off size fun l=>k (kB l) else eU row off fun x=>k (.d x)
 | .orow id ver i off=>aY bl id fun b=>QE size isAgg ver i off b k
 | _=>none
theorem Y1 (size:Nat) (isAgg:Bool) (x:bD):qL T d (.load size isAgg x) fr bl k kw = bM fr x fun v=>xL size isAgg v bl k:=by
 rw [iH,FY]
 unfold bM
 generalize bC (lk fr .any) x = v
 have hD:∀ row off,DH (YL size isAgg off row) k kw = if isAgg = true then xE row off size fun l=>k (kB l) else eU row off fun x=>k (.d x):=by
  intro row off
  unfold YL
  cases isAgg with
  | true=>simp only [if_true,xE]; split <;> rfl
  | false=>simp only [Bool.false_eq_true,if_false,eU]; cases row[off]? <;> rfl
 cases v with
 | ptr id off =>
  rw [aFD]
  simp only [xL,aY]
  generalize lk bl none id = b
  cases b with
  | none=>rfl
  | some b=>cases b with
   | box cs =>
    cases isAgg with
    | true=>simp only [aLA,EF,if_true,uR]; split <;> rfl
    | false=>simp only [aNQ,EF,Bool.false_eq_true,if_false,LN]; cases cs[off]? <;> rfl
   | fbox row=>exact hD row off
   | _=>rfl
 | d x=>cases x with
  | ptr row off=>exact hD row off
  | _=>rfl
 | orow id ver i off =>
  rw [aNj]
  simp only [xL,aY]
  generalize lk bl none id = b
  cases b with
  | none=>rfl
  | some b=>cases b with
   | rows v e sz rows =>
    simp only [aHy,QE]
    split
    ·cases rows[i]? with
     | none=>rfl
     | some row=>exact hD row off
    ·rfl
   | _=>rfl
 | _=>rfl
theorem aGH (size:Nat) (isAgg:Bool) (id off:Nat):xL size isAgg (.ptr id off) bl k = aY bl id fun b=>EF size isAgg off b k:=rfl
theorem aIY (size:Nat) (row:List D) (off:Nat):xL size true (.d (.ptr row off)) bl k = xE row off size fun l=>k (kB l):=rfl
theorem aKd (size:Nat) (row:List D) (off:Nat):xL size false (.d (.ptr row off)) bl k = eU row off fun x=>k (.d x):=rfl
theorem aN6 (size:Nat) (isAgg:Bool) (id ver i off:Nat):xL size isAgg (.orow id ver i off) bl k = aY bl id fun b=>QE size isAgg ver i off b k:=rfl
theorem aEN (size off:Nat) (row:List D):EF size true off (some (.fbox row)) k = xE row off size fun l=>k (kB l):=rfl
theorem aFz (size off:Nat) (row:List D):EF size false off (some (.fbox row)) k = eU row off fun x=>k (.d x):=rfl
theorem aIH (size off:Nat) (cs:List V):EF size false off (some (.box cs)) k = BM cs off k:=rfl
theorem aHX (size off:Nat) (c:V) (cs:List V):EF size true off (some (.box (c :: cs))) k = uR (c :: cs) off size fun l=>k (.agg l):=rfl
theorem aIC (size off:Nat) (ds:List D):EF size true off (some (.box (aQ ds))) k = xE ds off size fun l=>k (kB l):=by
 show uR (aQ ds) off size (fun l=>k (.agg l)) = _
 rw [TS]; rfl
theorem X7 {α:Type} (size:Nat) (isAgg:Bool) (v i off e sz:Nat) (c:α->List D) (xs:List α):QE size isAgg v i off (some (.rows v e sz (cM c xs))) k = xs[i]?.bind fun x=>xL size isAgg (.d (.ptr (c x) off)) [] k:=by
 simp only [QE,if_true,cM,List.getElem?_map]
 cases xs[i]? <;> rfl
def AK:List V->Nat->V->(List V->Option β)->Option β
 | [],_,_,_=>none
 | _ :: cs,0,v,k=>k (v :: cs)
 | c :: cs,n + 1,v,k=>AK cs n v fun l=>k (c :: l)
theorem XT (cs:List V) (n:Nat) (v:V) (k:List V->Option β):AK cs n v k = if n + 1 <= cs.length then k (hZ cs n [v]) else none:=by
 induction cs generalizing n k with
 | nil=>rfl
 | cons c cs ih=>cases n with
  | zero=>rw [if_pos (by simp)]; cases cs <;> rfl
  | succ n =>
   simp only [AK,ih,hZ,List.length_cons]
   by_cases h:n + 1 <= cs.length
   ·rw [if_pos h,if_pos (by omega)]
   ·rw [if_neg h,if_neg (by omega)]
theorem aLD (c:V) (cs:List V) (v:V) (k:List V->Option β):AK (c :: cs) 0 v k = k (v :: cs):=rfl
theorem aMx (c:V) (cs:List V) (n:Nat) (v:V) (k:List V->Option β):AK (c :: cs) (n + 1) v k = AK cs n v fun l=>k (c :: l):=rfl
def kA (cs:List V) (off:Nat) (ws:List V) (k:List V->Option β):Option β:=if off + ws.length <= cs.length then k (hZ cs off ws) else none
theorem SO {α:Type} (l:List α) (n:Nat):hZ l n [] = l:=by cases l <;> rfl
theorem WF (c:V) (cs:List V) (off:Nat) (ws:List V) (k:List V->Option β) (hw:ws ≠ []):kA (c :: cs) (off + 1) ws k = kA cs off ws fun l=>k (c :: l):=by
 unfold kA
 cases ws with
 | nil=>exact absurd rfl hw
 | cons w ws =>
  simp only [List.length_cons,hZ]
  by_cases h:off + (ws.length + 1) <= cs.length
  ·rw [if_pos h,if_pos (by omega)]
  ·rw [if_neg h,if_neg (by omega)]
theorem aBV (c:V) (cs:List V) (w:V) (ws:List V) (k:List V->Option β):kA (c :: cs) 0 (w :: ws) k = kA cs 0 ws fun l=>k (w :: l):=by
 unfold kA
 simp only [List.length_cons,hZ]
 by_cases h:0 + ws.length <= cs.length
 ·rw [if_pos h,if_pos (by omega)]
 ·rw [if_neg h,if_neg (by omega)]
theorem aBO (cs:List V) (k:List V->Option β):kA cs 0 [] k = k cs:=by simp [kA,SO]
def aP (size off id:Nat) (v:V) (b:Option aI) (kw:V->List (Nat × Option aI)->Option β):Option β:=match b with
 | some (.box cs)=>if v.cells.length = size ∧ off + size <= cs.length ∧ v.known = true then kw .any [(id,some (.box (hZ cs off v.cells)))] else none
 | _=>none
def K4 (size ver i off id:Nat) (v:V) (bl:List (Nat × Option aI)) (b:Option aI) (kw:V->List (Nat × Option aI)->Option β):Option β:=FH (OR size ver i off id (u3 (lk bl none) v) (aK (iA (lk bl none)) v.cells) b) kw
def QO (size:Nat) (p v:V) (bl:List (Nat × Option aI)) (kw:V->List (Nat × Option aI)->Option β):Option β:=match p with
 | .ptr id off=>aY bl id fun b=>aP size off id v b kw
 | .orow id ver i off=>aY bl id fun b=>K4 size ver i off id v bl b kw
 | _=>none
theorem aDx (size:Nat) (x v:bD):qL T d (.store size x v) fr bl k kw = bM fr x fun p=>bM fr v fun w=>QO size p w bl kw:=by
 rw [iH,aFH]
 unfold bM
 generalize bC (lk fr .any) x = p
 generalize bC (lk fr .any) v = w
 cases p with
 | ptr id off =>
  rw [aII]
  simp only [QO,aY]
  generalize lk bl none id = b
  cases b with
  | none=>rfl
  | some b=>cases b with
   | box cs =>
    simp only [aBN,aP]
    by_cases h:w.cells.length = size ∧ off + size <= cs.length ∧ w.known = true
    ·rw [if_pos h,if_pos h]; rfl
    ·rw [if_neg h,if_neg h]; rfl
   | _=>rfl
 | orow id ver i off =>
  rw [aJ9]
  simp only [QO,aY,K4]
  rw [CT]
  generalize lk bl none id = b
  cases b with
  | none=>rfl
  | some b=>cases b with
   | rows v e sz rows =>
    simp only [OR]
    by_cases h:ver = v
    ·rw [if_pos h]
     cases rows[i]? with
     | none=>rfl
     | some row =>
      cases aK (iA (lk bl none)) w.cells with
      | none=>rfl
      | some ds =>
       simp only
       split <;> rfl
    ·rw [if_neg h]; rfl
   | _=>rfl
 | _=>rfl
theorem aKj (size id off:Nat) (v:V):QO size (.ptr id off) v bl kw = aY bl id fun b=>aP size off id v b kw:=rfl
theorem aK4 (size id ver i off:Nat) (v:V):QO size (.orow id ver i off) v bl kw = aY bl id fun b=>K4 size ver i off id v bl b kw:=rfl
theorem HI (off id:Nat) (w c:V) (cs:List V) (hw:w.one = true) (hk:w.known = true):aP 1 off id w (some (.box (c :: cs))) kw = AK (c :: cs) off w fun l=>kw .any [(id,some (.box l))]:=by
 have hc:w.cells = [w]:=by cases w <;> first | rfl | cases hw
 rw [XT]
 simp only [aP,hc,hk]
 by_cases h:off + 1 <= (c :: cs).length
 ·rw [if_pos h,if_pos ⟨rfl,h,trivial⟩]
 ·rw [if_neg h,if_neg (fun q=>h q.2.1)]
theorem aGe (off id:Nat) (x:D) (c:V) (cs:List V):aP 1 off id (.d x) (some (.box (c :: cs))) kw = AK (c :: cs) off (.d x) fun l=>kw .any [(id,some (.box l))]:=HI off id _ c cs rfl rfl
theorem XY (off id:Nat) (c:V) (cs:List V):aP 1 off id .nil (some (.box (c :: cs))) kw = AK (c :: cs) off .nil fun l=>kw .any [(id,some (.box l))]:=HI off id _ c cs rfl rfl
theorem W2 (off id i v:Nat) (c:V) (cs:List V):aP 1 off id (.own i v) (some (.box (c :: cs))) kw = AK (c :: cs) off (.own i v) fun l=>kw .any [(id,some (.box l))]:=HI off id _ c cs rfl rfl
theorem XP (off id i v:Nat) (c:V) (cs:List V):aP 1 off id (.ptr i v) (some (.box (c :: cs))) kw = AK (c :: cs) off (.ptr i v) fun l=>kw .any [(id,some (.box l))]:=HI off id _ c cs rfl rfl
def zP (cs:List V) (n:Nat) (x:Option β):Option β:=if cs.length = n then x else none
theorem aLo (x:Option β):zP [] 0 x = x:=rfl
theorem aNr (c:V) (cs:List V) (n:Nat) (x:Option β):zP (c :: cs) (n + 1) x = zP cs n x:=by
 unfold zP
 simp only [List.length_cons]
 by_cases h:cs.length = n
 ·rw [if_pos h,if_pos (by omega)]
 ·rw [if_neg h,if_neg (by omega)]
theorem YM (size off id:Nat) (ws:List V) (c:V) (cs:List V):aP size off id (.agg ws) (some (.box (c :: cs))) kw = zP ws size (kA (c :: cs) off ws fun l=>kw .any [(id,some (.box l))]):=by
 unfold zP kA
 show (if ws.length = size ∧ off + size <= (c :: cs).length ∧ V.known (.agg ws) = true then kw .any [(id,some (.box (hZ (c :: cs) off ws)))] else none) = _
 by_cases h:ws.length = size
 ·subst h
  rw [if_pos rfl]
  by_cases h:off + ws.length <= (c :: cs).length
  ·rw [if_pos h,if_pos ⟨rfl,h,rfl⟩]
  ·rw [if_neg h,if_neg (fun q=>h q.2.1)]
 ·rw [if_neg h,if_neg (fun q=>h q.1)]
theorem SA {α:Type}:∀ (l m:List α),l.length = m.length->hZ l 0 m = m
 | [],[],_=>rfl
 | _ :: l,x :: m,h=>by
  simp only [hZ]
  rw [SA l m (by simpa using h)]
 | [],_ :: _,h=>by simp at h
 | _ :: _,[],h=>by simp at h
theorem nO (n id:Nat) (ds:List D) (hd:ds.length = n) (cs:List V) (hc:cs.length = n):aP n 0 id (kB ds) (some (.box cs)) kw = kw .any [(id,some (.box (aQ ds)))]:=by
 have e:(aQ ds).length = n:=by rw [← hd]; simp [aQ]
 show (if (aQ ds).length = n ∧ 0 + n <= cs.length ∧ V.known (kB ds) = true then kw .any [(id,some (.box (hZ cs 0 (aQ ds))))] else none) = _
 rw [if_pos ⟨e,by omega,rfl⟩,SA _ _ (by rw [hc,e])]
def aHu (v:V) (bl:List (Nat × Option aI)) (k:V->Option β):Option β:=match v with
 | .ptr id off=>k (.ptr id off)
 | .d (.ptr row off)=>k (.d (.ptr row off))
 | .orow id ver i off=>aY bl id fun b=>match b with
  | some (.rows v _ _ _)=>if ver = v then k (.orow id ver i off) else none
  | _=>none
 | _=>none
theorem UL (x:bD):qL T d (.nilCheck x) fr bl k kw = bM fr x fun v=>aHu v bl k:=by
 unfold qL bM
 simp only [bZ]
 generalize bC (lk fr .any) x = v
 cases v with
 | d x=>cases x <;> rfl
 | orow id ver i off =>
  simp only [aHu,aY]
  generalize lk bl none id = b
  cases b with
  | none=>rfl
  | some b=>cases b with
   | rows v e s rows=>simp only; by_cases h:ver = v <;> simp [h]
   | _=>rfl
 | _=>rfl
theorem aQH (id off:Nat):aHu (.ptr id off) bl k = k (.ptr id off):=rfl
theorem aQi (row:List D) (off:Nat):aHu (.d (.ptr row off)) bl k = k (.d (.ptr row off)):=rfl
def XH (id ver i off:Nat) (b:Option aI) (k:V->Option β):Option β:=match b with
 | some (.rows v _ _ _)=>if ver = v then k (.orow id ver i off) else none
 | _=>none
theorem aP2 (id ver i off:Nat):aHu (.orow id ver i off) bl k = aY bl id fun b=>XH id ver i off b k:=rfl
theorem aNK (id ver i off e s:Nat) (rows:List (List D)):XH id ver i off (some (.rows ver e s rows)) k = k (.orow id ver i off):=if_pos rfl
def faK (off:Nat) (v:V) (bl:List (Nat × Option aI)) (k:V->Option β):Option β:=match v with
 | .ptr id o=>k (.ptr id (o + off))
 | .d (.ptr row o)=>k (.d (.ptr row (o + off)))
 | .orow id ver i o=>aY bl id fun b=>XH id ver i (o + off) b k
 | _=>none
theorem RR (off:Nat) (x:bD):qL T d (.fieldAddr off x) fr bl k kw = bM fr x fun v=>faK off v bl k:=by
 unfold qL bM
 simp only [bZ]
 generalize bC (lk fr .any) x = v
 cases v with
 | d x=>cases x <;> rfl
 | orow id ver i o =>
  simp only [faK,aY]
  generalize lk bl none id = b
  cases b with
  | none=>rfl
  | some b=>cases b with
   | rows v e s rows=>simp only [XH]; by_cases h:ver = v <;> simp [h]
   | _=>rfl
 | _=>rfl
theorem aRz (off id o:Nat):faK off (.ptr id o) bl k = k (.ptr id (o + off)):=rfl
theorem aSi (off:Nat) (row:List D) (o:Nat):faK off (.d (.ptr row o)) bl k = k (.d (.ptr row (o + off))):=rfl
theorem aRO (off id ver i o:Nat):faK off (.orow id ver i o) bl k = aY bl id fun b=>XH id ver i (o + off) b k:=rfl
def qD (c:Nat) (op:BinOp) (a b:V) (k:V->Option β):Option β:=(zS c op a b).bind fun x=>k (.d x)
theorem aLu (c:Nat) (op:BinOp) (x y:bD):qL T d (.bin c op x y) fr bl k kw = bM fr x fun a=>bM fr y fun b=>qD c op a b k:=by
 rw [iH]
 exact PC _
section
variable (kd:IntKind) (x y:Int)
theorem aJI:qD 0 .add (.d (.int kd x)) (.d (.int kd y)) k = k (.d (.int kd (IntKind.wrap kd (x + y)))):=by simp [qD,zS,pM]
theorem aJK:qD 0 .sub (.d (.int kd x)) (.d (.int kd y)) k = k (.d (.int kd (IntKind.wrap kd (x - y)))):=by simp [qD,zS,pM]
theorem aIo:qD 0 .mul (.d (.int kd x)) (.d (.int kd y)) k = k (.d (.int kd (IntKind.wrap kd (x * y)))):=by simp [qD,zS,pM]
theorem aIu:qD 0 .quo (.d (.int kd x)) (.d (.int kd y)) k = if y = 0 then none else k (.d (.int kd (IntKind.wrap kd (x.tdiv y)))):=by
 simp only [qD,zS,pM,if_true]; split <;> rfl
theorem aJb:qD 0 .rem (.d (.int kd x)) (.d (.int kd y)) k = if y = 0 then none else k (.d (.int kd (x.tmod y))):=by
 simp only [qD,zS,pM,if_true]; split <;> rfl
theorem aJE:qD 0 .eql (.d (.int kd x)) (.d (.int kd y)) k = k (.d (.bool (x == y))):=by simp [qD,zS,pM]
theorem aJG:qD 0 .neq (.d (.int kd x)) (.d (.int kd y)) k = k (.d (.bool (x != y))):=by simp [qD,zS,pM]
theorem aKh:qD 0 .lss (.d (.int kd x)) (.d (.int kd y)) k = k (.d (.bool (decide (x < y)))):=by simp [qD,zS,pM]
theorem aIN:qD 0 .leq (.d (.int kd x)) (.d (.int kd y)) k = k (.d (.bool (decide (x <= y)))):=by simp [qD,zS,pM]
theorem aJa:qD 0 .gtr (.d (.int kd x)) (.d (.int kd y)) k = k (.d (.bool (decide (x > y)))):=by simp [qD,zS,pM]
theorem aJD:qD 0 .geq (.d (.int kd x)) (.d (.int kd y)) k = k (.d (.bool (decide (x ≥ y)))):=by simp [qD,zS,pM]
theorem aKW:qD 0 .and (.d (.int kd x)) (.d (.int kd y)) k = k (.d (.int kd (IntKind.wrap kd (BitVec.ofInt (IntKind.bits kd) x &&& BitVec.ofInt (IntKind.bits kd) y).toNat))):=by simp [qD,zS,pM]
theorem aL4:qD 0 .or (.d (.int kd x)) (.d (.int kd y)) k = k (.d (.int kd (IntKind.wrap kd (BitVec.ofInt (IntKind.bits kd) x ||| BitVec.ofInt (IntKind.bits kd) y).toNat))):=by simp [qD,zS,pM]
theorem aIO:qD 0 .xor (.d (.int kd x)) (.d (.int kd y)) k = k (.d (.int kd (IntKind.wrap kd (BitVec.ofInt (IntKind.bits kd) x ^^^ BitVec.ofInt (IntKind.bits kd) y).toNat))):=by simp [qD,zS,pM]
end
section
variable (x y:ByteArray)
theorem aDA:qD 0 .eql (.d (.str x)) (.d (.str y)) k = k (.d (.bool (x.toList == y.toList))):=rfl
theorem aFv:qD 0 .neq (.d (.str x)) (.d (.str y)) k = k (.d (.bool !(x.toList == y.toList))):=rfl
theorem aF1:qD 0 .lss (.d (.str x)) (.d (.str y)) k = k (.d (.bool (Op.bytesLess x.toList y.toList))):=rfl
theorem aEY:qD 0 .leq (.d (.str x)) (.d (.str y)) k = k (.d (.bool (Op.bytesLess x.toList y.toList || x.toList == y.toList))):=rfl
theorem aD1:qD 0 .gtr (.d (.str x)) (.d (.str y)) k = k (.d (.bool !(Op.bytesLess x.toList y.toList || x.toList == y.toList))):=rfl
theorem aF4:qD 0 .geq (.d (.str x)) (.d (.str y)) k = k (.d (.bool !(Op.bytesLess x.toList y.toList))):=rfl
end
theorem aFJ (x y:Bool):qD 1 .eql (.d (.bool x)) (.d (.bool y)) k = k (.d (.bool (x == y))):=rfl
theorem aFo (x y:Bool):qD 1 .neq (.d (.bool x)) (.d (.bool y)) k = k (.d (.bool !(x == y))):=rfl
def OQ (o:Option D) (k:V->Option β):Option β:=o.bind fun x=>k (.d x)
theorem AD {o o' : Option D} {k:V->Option β} (h:o = o'):OQ o k = OQ o' k:=by rw [h]
theorem aFU (x:D):OQ (some x) k = k (.d x):=rfl
theorem aEF:OQ none k = none:=rfl
theorem aLY (ks:List Nat) (neg:Bool) (x y:bD):qL T d (.eqS ks neg x y) fr bl k kw = bM fr x fun a=>bM fr y fun b=>OQ (eqV ks neg a b) k:=by
 rw [iH]
 exact PC _
def kJ:List Nat->List V->List V->(Bool->Option β)->Option β:=fun ks xs ys k=>match dL ks xs ys with
 | some b=>k b
 | none=>none
def Q2 (ks:List Nat) (neg:Bool) (a b:V) (k:V->Option β):Option β:=match a,b with
 | .agg xs,.agg ys=>kJ ks xs ys fun b=>k (.d (.bool (if neg then !b else b)))
 | _,_=>none
theorem aNP (ks:List Nat) (neg:Bool) (x y:bD):qL T d (.eqS ks neg x y) fr bl k kw = bM fr x fun a=>bM fr y fun b=>Q2 ks neg a b k:=by
 rw [aLY]
 unfold bM
 generalize bC (lk fr .any) x = a
 generalize bC (lk fr .any) y = b
 cases a with
 | agg xs=>cases b with
  | agg ys =>
   simp only [eqV,Q2,kJ,OQ]
   cases dL ks xs ys <;> rfl
  | _=>rfl
 | _=>cases b <;> rfl
section
variable {k:V->Option β}
theorem aGW (ks:List Nat) (xs ys:List V):Q2 ks true (.agg xs) (.agg ys) k = kJ ks xs ys fun b=>k (.d (.bool !b)):=rfl
theorem aHW (ks:List Nat) (xs ys:List V):Q2 ks false (.agg xs) (.agg ys) k = kJ ks xs ys fun b=>k (.d (.bool b)):=rfl
theorem aJV (ks:List Nat) (xs:List D) (ys:List V):Q2 ks true (kB xs) (.agg ys) k = kJ ks (aQ xs) ys fun b=>k (.d (.bool !b)):=rfl
theorem aJ6 (ks:List Nat) (xs:List D) (ys:List V):Q2 ks false (kB xs) (.agg ys) k = kJ ks (aQ xs) ys fun b=>k (.d (.bool b)):=rfl
theorem aI1 (ks:List Nat) (xs:List V) (ys:List D):Q2 ks true (.agg xs) (kB ys) k = kJ ks xs (aQ ys) fun b=>k (.d (.bool !b)):=rfl
theorem aI8 (ks:List Nat) (xs:List V) (ys:List D):Q2 ks false (.agg xs) (kB ys) k = kJ ks xs (aQ ys) fun b=>k (.d (.bool b)):=rfl
theorem aHd (ks:List Nat) (xs ys:List D):Q2 ks true (kB xs) (kB ys) k = kJ ks (aQ xs) (aQ ys) fun b=>k (.d (.bool !b)):=rfl
theorem aKS (ks:List Nat) (xs ys:List D):Q2 ks false (kB xs) (kB ys) k = kJ ks (aQ xs) (aQ ys) fun b=>k (.d (.bool b)):=rfl
end
section
variable {k:Bool->Option β}
theorem aMm (kd:IntKind) (x y:Int):kJ [0] [.d (.int kd x)] [.d (.int kd y)] k = k (x == y):=by simp [kJ,dL,vN]
theorem aMr (x y:Bool):kJ [1] [.d (.bool x)] [.d (.bool y)] k = k (x == y):=by simp [kJ,dL,vN]
theorem aOF (x y:ByteArray):kJ [2] [.d (.str x)] [.d (.str y)] k = k (x == y):=by simp [kJ,dL,vN]
theorem aPn (kd:IntKind) (x y:Int) (c:Nat) (ks:List Nat) (xs ys:List V):kJ (0 :: c :: ks) (.d (.int kd x) :: xs) (.d (.int kd y) :: ys) k = kJ (c :: ks) xs ys fun b=>k ((x == y) && b):=by
 simp only [kJ,dL,vN,if_true]
 cases dL (c :: ks) xs ys <;> rfl
theorem aPF (x y:Bool) (c:Nat) (ks:List Nat) (xs ys:List V):kJ (1 :: c :: ks) (.d (.bool x) :: xs) (.d (.bool y) :: ys) k = kJ (c :: ks) xs ys fun b=>k ((x == y) && b):=by
 simp only [kJ,dL,vN]
 cases dL (c :: ks) xs ys <;> rfl
theorem aPE (x y:ByteArray) (c:Nat) (ks:List Nat) (xs ys:List V):kJ (2 :: c :: ks) (.d (.str x) :: xs) (.d (.str y) :: ys) k = kJ (c :: ks) xs ys fun b=>k ((x == y) && b):=by
 simp only [kJ,dL,vN]
 cases dL (c :: ks) xs ys <;> rfl
end
def aHA (kd:IntKind) (x:Int):List V->(V->Option β)->Option β:=fun l k=>OQ (aA8 kd x l) k
def aKb (kd:IntKind) (x:Int):List V->(V->Option β)->Option β:=fun l k=>OQ (aAL kd x l) k
def aPi (l:List V) (k:V->Option β):Option β:=OQ (aON l) k
def aO9 (l:List V) (k:V->Option β):Option β:=OQ (aN4 l) k
theorem aOR (l:List bD):qL T d (.max l) fr bl k kw = FA fr l fun vs=>aPi vs k:=by
 rw [iH,KK]
 exact PC _
theorem aNV (l:List bD):qL T d (.min l) fr bl k kw = FA fr l fun vs=>aO9 vs k:=by
 rw [iH,KK]
 exact PC _
section
variable {k:V->Option β}
theorem aMF (kd:IntKind) (x:Int) (l:List V):aPi (.d (.int kd x) :: l) k = aHA kd x l k:=rfl
theorem aNt (kd:IntKind) (x:Int) (l:List V):aO9 (.d (.int kd x) :: l) k = aKb kd x l k:=rfl
theorem aKw (kd:IntKind) (x:Int):aHA kd x [] k = k (.d (.int kd x)):=rfl
theorem aJ3 (kd:IntKind) (x:Int):aKb kd x [] k = k (.d (.int kd x)):=rfl
theorem aEs (kd:IntKind) (x y:Int) (l:List V):aHA kd x (.d (.int kd y) :: l) k = aHA kd (if y > x then y else x) l k:=by simp [aHA,aA8]
theorem aGo (kd:IntKind) (x y:Int) (l:List V):aKb kd x (.d (.int kd y) :: l) k = aKb kd (if y < x then y else x) l k:=by simp [aKb,aAL]
end
def unK (op:UnOp) (v:V) (k:V->Option β):Option β:=OQ (unV op v) k
theorem aQr (op:UnOp) (x:bD):qL T d (.un op x) fr bl k kw = bM fr x fun a=>unK op a k:=by
 rw [iH]
 exact PC _
theorem aOC (b:Bool):unK .not (.d (.bool b)) k = k (.d (.bool !b)):=rfl
theorem aNM (kd:IntKind) (n:Int):unK .neg (.d (.int kd n)) k = k (.d (.int kd (IntKind.wrap kd (0 - n)))):=rfl
def aO8 (kd:IntKind) (v:V) (k:V->Option β):Option β:=match v with
 | .d (.int _ n)=>k (.d (.int kd (IntKind.wrap kd n)))
 | _=>none
theorem aH1 (kd:IntKind) (x:bD):qL T d (.conv kd x) fr bl k kw = bM fr x fun a=>aO8 kd a k:=by
 unfold qL bM
 simp only [bZ]
 generalize bC (lk fr .any) x = v
 cases v with
 | d x=>cases x <;> rfl
 | _=>rfl
theorem aMX (kd kd' : IntKind) (n:Int):aO8 kd (.d (.int kd' n)) k = k (.d (.int kd (IntKind.wrap kd n))):=rfl
def T5 (s:ByteArray):List Int:=s.data.toList.map fun b=>(b.toNat:Int)
def aBf (v:V) (k:V->Option β):Option β:=match v with
 | .d (.str s)=>k (.d (.sl (cM (cK .u8) (T5 s))))
 | _=>none
theorem aEG (x:bD):qL T d (.bytes x) fr bl k kw = bM fr x fun a=>aBf a k:=by
 unfold qL bM
 simp only [bZ]
 generalize bC (lk fr .any) x = v
 cases v with
 | d x=>cases x with
  | str s =>
   have:(s.data.toList.map fun b=>[D.int .u8 (b.toNat:Int)]) = cM (cK .u8) (T5 s):=by
    simp only [cM,T5,List.map_map]
    rfl
   simp only [aBf,this]
  | _=>rfl
 | _=>rfl
theorem aI2 (s:ByteArray):aBf (.d (.str s)) k = k (.d (.sl (cM (cK .u8) (T5 s)))):=rfl
def IV (v:V) (bl:List (Nat × Option aI)) (k:List (List D)->Option β):Option β:=(fL (lk bl none) v).bind k
def GL (ver:Nat) (b:Option aI) (k:List (List D)->Option β):Option β:=(aKB ver b).bind k
theorem aIz (rows:List (List D)) (k:List (List D)->Option β):IV (.d (.sl rows)) bl k = k rows:=rfl
theorem aEg (k:List (List D)->Option β):IV .nil bl k = k []:=rfl
theorem SG (id ver:Nat) (k:List (List D)->Option β):IV (.own id ver) bl k = aY bl id fun b=>GL ver b k:=by
 unfold IV aY GL
 simp only [fL]
 generalize lk bl none id = b
 cases b with
 | none=>rfl
 | some b=>cases b <;> rfl
theorem ND (v e s:Nat) (rows:List (List D)) (k:List (List D)->Option β):GL v (some (.rows v e s rows)) k = k rows:=by simp [GL,aKB]
theorem M8 (v:Nat) (rows:List (List D)) (k:List (List D)->Option β):GL v (some (.froz v rows)) k = k rows:=by simp [GL,aKB]
theorem aMp (x:bD):qL T d (.len x) fr bl k kw = bM fr x fun a=>IV a bl fun rows=>k (.d (.int .i64 rows.length)):=by
 unfold qL bM IV
 simp only [bZ]
 cases fL (lk bl none) (bC (lk fr .any) x) <;> rfl
def aO4 (v:V) (k:V->Option β):Option β:=match v with
 | .d (.str s)=>k (.d (.int .i64 s.size))
 | _=>none
theorem aHS (x:bD):qL T d (.lenS x) fr bl k kw = bM fr x fun a=>aO4 a k:=by
 unfold qL bM
 simp only [bZ]
 generalize bC (lk fr .any) x = v
 cases v with
 | d x=>cases x <;> rfl
 | _=>rfl
theorem aNo (s:ByteArray):aO4 (.d (.str s)) k = k (.d (.int .i64 s.size)):=rfl
def J7 (off size:Nat) (isAgg:Bool) (v:V) (k:V->Option β):Option β:=match v with
 | .agg cs=>if isAgg = true then uR cs off size fun l=>k (.agg l) else BM cs off k
 | _=>none
theorem aFV (off size:Nat) (isAgg:Bool) (x:bD):qL T d (.field off size isAgg x) fr bl k kw = bM fr x fun v=>J7 off size isAgg v k:=by
 unfold qL bM
 simp only [bZ]
 generalize bC (lk fr .any) x = v
 cases v with
 | agg cs =>
  cases isAgg with
  | true =>
   simp only [J7,uR,if_true]
   by_cases h:off + size <= cs.length
   ·rw [if_pos h,if_pos h]
   ·rw [if_neg h,if_neg h]
  | false=>simp only [J7,LN,Bool.false_eq_true,if_false]; cases cs[off]? <;> rfl
 | _=>rfl
theorem aG1 (off size:Nat) (cs:List V):J7 off size false (.agg cs) k = BM cs off k:=rfl
theorem aKA (off size:Nat) (cs:List V):J7 off size true (.agg cs) k = uR cs off size fun l=>k (.agg l):=rfl
theorem aFE (off size:Nat) (ds:List D):J7 off size false (kB ds) k = eU ds off fun x=>k (.d x):=by
 show BM (aQ ds) off k = _
 rw [aCQ]
theorem aGg (off size:Nat) (ds:List D):J7 off size true (kB ds) k = xE ds off size fun l=>k (kB l):=by
 show uR (aQ ds) off size (fun l=>k (.agg l)) = _
 rw [TS]; rfl
def rS (ds:List D) (n:Nat) (x:Option β):Option β:=if ds.length = n then x else none
def aIS (size:Nat) (x i:V) (bl:List (Nat × Option aI)) (k:V->Option β):Option β:=DH (VL size x i (lk bl none)) k fun _ _=>none
theorem aFY {size:Nat} {x i:V} {b:Nat->Option aI} {kw' : V->List (Nat × Option aI)->Option β}:DH (VL size x i b) k kw = DH (VL size x i b) k kw':=by
 have:∀ r,VL size x i b = some r->r.2 = []:=by
  intro r
  unfold VL
  intro e
  repeat' split at e
  all_goals first | cases e; rfl | cases e
 cases h:VL size x i b with
 | none=>rfl
 | some r=>obtain ⟨v,wr⟩:=r; have:=this _ h; dsimp only at this; subst this; rfl
theorem RI (size:Nat) (x i:bD):qL T d (.indexAddr size x i) fr bl k kw = bM fr x fun a=>bM fr i fun b=>aIS size a b bl k:=by
 rw [iH,RE]
 unfold bM aIS
 exact aFY
theorem aLp {α:Type} (size:Nat) (c:α->List D) (xs:List α) (kd:IntKind) (n:Int):aIS size (.d (.sl (cM c xs))) (.d (.int kd n)) bl k = (at? xs n).bind fun x=>rS (c x) size (k (.d (.ptr (c x) 0))):=by
 unfold aIS
 rw [CT,aNm]
 rfl
def XR (size id ver:Nat) (n:Int) (b:Option aI) (k:V->Option β):Option β:=DH (aK3 size id ver n b) k fun _ _=>none
theorem aIc (size id ver:Nat) (kd:IntKind) (n:Int):aIS size (.own id ver) (.d (.int kd n)) bl k = aY bl id fun b=>XR size id ver n b k:=rfl
theorem aCr {α:Type} (size id v e:Nat) (n:Int) (c:α->List D) (xs:List α):XR size id v n (some (.rows v e size (cM c xs))) k = if 0 <= n ∧ n.toNat < xs.length then k (.orow id v n.toNat 0) else none:=by
 unfold XR
 rw [CT,aEd,if_pos rfl,if_pos rfl,uK]
theorem ZJ {α:Type} (size id v:Nat) (n:Int) (c:α->List D) (xs:List α):XR size id v n (some (.froz v (cM c xs))) k = (at? xs n).bind fun x=>rS (c x) size (k (.d (.ptr (c x) 0))):=by
 unfold XR
 rw [CT,aGE,if_pos rfl]
 rfl
def aC2 (x i:V) (k:V->Option β):Option β:=FH (GQ x i) fun v _=>k v
theorem aFt (x i:bD):qL T d (.index x i) fr bl k kw = bM fr x fun a=>bM fr i fun b=>aC2 a b k:=by
 rw [iH,aDP]
 unfold bM aC2
 generalize bC (lk fr .any) x = a
 generalize bC (lk fr .any) i = b
 have:∀ r,GQ a b = some r->r.2 = []:=by
  intro r
  unfold GQ
  intro e
  repeat' split at e
  all_goals first | cases e; rfl | cases e
 show _ = FH (GQ a b) fun v _=>k v
 cases h:GQ a b with
 | none=>rfl
 | some r=>obtain ⟨v,wr⟩:=r; have:=this _ h; dsimp only at this; subst this; rfl
theorem aMb (s:ByteArray) (kd:IntKind) (n:Int):aC2 (.d (.str s)) (.d (.int kd n)) k = (sAt s n).bind fun b=>k (.d (.int .u8 b)):=by
 unfold aC2
 rw [aJx]
def aBv (fr:List (Nat × V)) (o:Option bD) (k:Option V->Option β):Option β:=match o with
 | none=>k none
 | some x=>bM fr x fun v=>k (some v)
theorem aQX (k:Option V->Option β):aBv fr none k = k none:=rfl
theorem aP4 (x:bD) (k:Option V->Option β):aBv fr (some x) k = bM fr x fun v=>k (some v):=rfl
def DJ (size:Nat) (x:V) (lo hi:Option V) (bl:List (Nat × Option aI)) (k:V->Option β) (kw:V->List (Nat × Option aI)->Option β):Option β:=DH (vQ (lk bl none) size x lo hi) k kw
theorem aF9 (size:Nat) (x:bD) (lo hi:Option bD):qL T d (.slice size x lo hi) fr bl k kw = bM fr x fun a=>aBv fr lo fun l=>aBv fr hi fun h=>DJ size a l h bl k kw:=by
 rw [iH,aF6]
 cases lo <;> cases hi <;> rfl
section
variable {α:Type} (size:Nat) (c:α->List D) (xs:List α) (hs:sized size (cM c xs) = true)
include hs
theorem HY {lo hi:Option V} {l h:Int} (hl:B1 lo 0 = some l) (hh:B1 hi (xs.length:Int) = some h):DJ size (.d (.sl (cM c xs))) lo hi bl k kw = if i5 xs.length l h then k (.d (.sl (cM c (j8 xs l h)))) else none:=by
 unfold DJ
 rw [CT,aEv _ size c xs lo hi l h hl hh hs]
theorem aGp:DJ size (.d (.sl (cM c xs))) none none bl k kw = if i5 xs.length 0 (xs.length:Int) then k (.d (.sl (cM c (j8 xs 0 (xs.length:Int))))) else none:=HY size c xs hs rfl rfl
theorem aDQ (kd:IntKind) (l:Int):DJ size (.d (.sl (cM c xs))) (some (.d (.int kd l))) none bl k kw = if i5 xs.length l (xs.length:Int) then k (.d (.sl (cM c (j8 xs l (xs.length:Int))))) else none:=HY size c xs hs rfl rfl
theorem aDU (kd:IntKind) (h:Int):DJ size (.d (.sl (cM c xs))) none (some (.d (.int kd h))) bl k kw = if i5 xs.length 0 h then k (.d (.sl (cM c (j8 xs 0 h)))) else none:=HY size c xs hs rfl rfl
theorem aFj (kd kd' : IntKind) (l h:Int):DJ size (.d (.sl (cM c xs))) (some (.d (.int kd l))) (some (.d (.int kd' h))) bl k kw = if i5 xs.length l h then k (.d (.sl (cM c (j8 xs l h)))) else none:=HY size c xs hs rfl rfl
end
def Q8 (e size bytes d:Nat) (x y:V) (bl:List (Nat × Option aI)) (kw:V->List (Nat × Option aI)->Option β):Option β:=IV y bl fun new =>
 if sized size new = true then
   match x with
   | .nil=>aY bl d fun b=>fK b (if new.length * bytes <= 140737488355328 then kw (.own d 0) [(d,some (.rows 0 e size new))] else none)
   | .own id ver=>aY bl id fun b=>match b with
    | some (.rows v e' size' rows)=>if ver = v ∧ e' = e ∧ size' = size ∧ (rows.length + new.length) * bytes <= 140737488355328 then kw (.own id (ver + 1)) [(id,some (.rows (ver + 1) e size (rows ++ new)))] else none
    | _=>none
   | _=>none
   else none
theorem Z2 (e size bytes:Nat) (x y:bD):qL T d (.append e size bytes x y) fr bl k kw = bM fr x fun a=>bM fr y fun b=>Q8 e size bytes d a b bl kw:=by
 unfold qL bM Q8 IV aY fK
 simp only [bZ]
 generalize bC (lk fr .any) x = v
 cases fL (lk bl none) (bC (lk fr .any) y) with
 | none=>rfl
 | some new =>
  simp only [Option.bind_some]
  by_cases hs:sized size new = true
  ·rw [if_pos hs,if_pos hs]
   cases v with
   | nil =>
    simp only
    cases lk bl none d with
    | none =>
     simp only
     by_cases h:new.length * bytes <= 140737488355328
     ·rw [if_pos h,if_pos h]
     ·rw [if_neg h,if_neg h]
    | some b=>rfl
   | own id ver =>
    simp only
    generalize lk bl none id = b
    cases b with
    | none=>rfl
    | some b=>cases b with
     | rows v e' size' rows =>
      simp only
      by_cases h:ver = v ∧ e' = e ∧ size' = size ∧ (rows.length + new.length) * bytes <= 140737488355328
      ·rw [if_pos h,if_pos h]
      ·rw [if_neg h,if_neg h]
     | _=>rfl
   | _=>rfl
  ·rw [if_neg hs,if_neg hs]
def O4 {α:Type} (e size bytes d:Nat) (x:V) (c:α->List D) (ys:List α) (bl:List (Nat × Option aI)) (kw:V->List (Nat × Option aI)->Option β):Option β:=match x with
   | .nil=>aY bl d fun b=>fK b (if ys.length * bytes <= 140737488355328 then kw (.own d 0) [(d,some (.rows 0 e size (cM c ys)))] else none)
   | .own id ver=>aY bl id fun b=>match b with
    | some (.rows v e' size' rows)=>if ver = v ∧ e' = e ∧ size' = size ∧ (rows.length + ys.length) * bytes <= 140737488355328 then kw (.own id (ver + 1)) [(id,some (.rows (ver + 1) e size (rows ++ cM c ys)))] else none
    | _=>none
   | _=>none
theorem aGc {α:Type} (e size bytes d:Nat) (x y:V) (c:α->List D) (ys:List α) (hy:∀ k' : List (List D)->Option β,IV y bl k' = k' (cM c ys)) (hs:sized size (cM c ys) = true):Q8 e size bytes d x y bl kw = O4 e size bytes d x c ys bl kw:=by
 unfold Q8 O4
 rw [hy,if_pos hs,uK]
theorem TR {α:Type} (e size bytes d:Nat) (x:V) (c:α->List D) (ys:List α) (hs:sized size (cM c ys) = true):Q8 e size bytes d x (.d (.sl (cM c ys))) bl kw = O4 e size bytes d x c ys bl kw:=aGc e size bytes d x _ c ys (fun _=>rfl) hs
def ZA (e size bytes d:Nat) (x:V) (ver:Nat) (b:Option aI) (bl:List (Nat × Option aI)) (kw:V->List (Nat × Option aI)->Option β):Option β:=GL ver b fun new=>Q8 e size bytes d x (.d (.sl new)) bl kw
theorem aIx (e size bytes d id ver:Nat) (x:V):Q8 e size bytes d x (.own id ver) bl kw = aY bl id fun b=>ZA e size bytes d x ver b bl kw:=by
 show Q8 e size bytes d x (.own id ver) bl kw = GL ver (lk bl none id) fun new=>Q8 e size bytes d x (.d (.sl new)) bl kw
 unfold Q8
 rw [SG]
 rfl
theorem aAl {α:Type} (e size bytes d v e' s' : Nat) (x:V) (c:α->List D) (ys:List α) (hs:sized size (cM c ys) = true):ZA e size bytes d x v (some (.rows v e' s' (cM c ys))) bl kw = O4 e size bytes d x c ys bl kw:=by
 unfold ZA
 rw [ND,TR _ _ _ _ _ _ _ hs]
theorem aAb {α:Type} (e size bytes d v:Nat) (x:V) (c:α->List D) (ys:List α) (hs:sized size (cM c ys) = true):ZA e size bytes d x v (some (.froz v (cM c ys))) bl kw = O4 e size bytes d x c ys bl kw:=by
 unfold ZA
 rw [M8,TR _ _ _ _ _ _ _ hs]
theorem aFM {α:Type} (e size bytes d:Nat) (c:α->List D) (ys:List α):O4 e size bytes d .nil c ys bl kw = aY bl d fun b=>fK b (if ys.length * bytes <= 140737488355328 then kw (.own d 0) [(d,some (.rows 0 e size (cM c ys)))] else none):=rfl
def aIJ {α:Type} (e size bytes id ver:Nat) (c:α->List D) (ys:List α) (b:Option aI) (kw:V->List (Nat × Option aI)->Option β):Option β:=match b with
    | some (.rows v e' size' rows)=>if ver = v ∧ e' = e ∧ size' = size ∧ (rows.length + ys.length) * bytes <= 140737488355328 then kw (.own id (ver + 1)) [(id,some (.rows (ver + 1) e size (rows ++ cM c ys)))] else none
    | _=>none
theorem aEb {α:Type} (e size bytes d id ver:Nat) (c:α->List D) (ys:List α):O4 e size bytes d (.own id ver) c ys bl kw = aY bl id fun b=>aIJ e size bytes id ver c ys b kw:=rfl
theorem aBI {α:Type} (e size bytes id v:Nat) (c:α->List D) (xs ys:List α):aIJ e size bytes id v c ys (some (.rows v e size (cM c xs))) kw = if (xs.length + ys.length) * bytes <= 140737488355328 then kw (.own id (v + 1)) [(id,some (.rows (v + 1) e size (cM c (xs ++ ys))))] else none:=by
 simp only [aIJ,true_and,uK,aE8]
def OH (e:Nat) (rows:List (List D)) (k:List (List D)->Option β):Option β:=k rows
def LG (v:V) (bl:List (Nat × Option aI)) (k:List D->List (Nat × Option aI)->Option β):Option β:=match aK (iA (lk bl none)) v.cells with
 | some row=>k row (u3 (lk bl none) v)
 | none=>none
end
section
end
end
end Vm
end Go.Proofs.Ytgjcnbgfaimepaa
