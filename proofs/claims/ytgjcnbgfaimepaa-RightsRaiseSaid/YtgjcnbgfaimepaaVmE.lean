/- The small machine's code, read from the front: what is left to do stands in a continuation. Equations by which the small machine's code is read (they are named in the proofs that a program prints). The small machine, read from the front by rewriting at the head only: every value is looked up before it is used. -/
import Derived.Test.YtgjcnbgfaimepaaVmD
set_option linter.unusedVariables false
set_option linter.unusedSimpArgs false
namespace Go.Proofs.Ytgjcnbgfaimepaa
namespace Vm
open Go.RowKit
section
variable {β:Type}
noncomputable def b6 (T:wE) (c:aG) (s:St) (k:Ex->St->Option β):Option β:=(ev T c s).bind fun p=>k p.1 p.2
noncomputable def tP (T:wE) (l:List aO) (s:St) (k:St->Option β):Option β:=(iP (call T) l s).bind k
noncomputable def aOT (T:wE) (l:List aO) (ps:List (Nat × Nat)) (s:St) (k:St->Option β):Option β:=(fT (call T) l (some ps) s).bind k
def GJ (r:J1) (k:V->List (Nat × Option aI)->Option β):Option β:=match r with
 | some (v,wr)=>k v wr
 | none=>none
def L9 (v:V) (x y:Option β):Option β:=match v with
 | .d (.bool b)=>if b = true then x else y
 | _=>none
def aOS (k1:St->Option β) (k:Ex->St->Option β):Ex->St->Option β
 | .normal,s=>k1 s
 | e,s=>k e s
def QC (id:Nat) (k:Ex->St->Option β):Ex->St->Option β
 | .exit id',s=>if id' = id then k .normal s else k (.exit id') s
 | e,s=>k e s
def X0 (m:tU) (k:Ex->St->Option β):Ex->St->Option β
 | .normal,s=>k .normal (m.app s)
 | e,s=>k e s
theorem yJ {v v' : V} {x y:Option β} (h:v = v'):L9 v x y = L9 v' x y:=by rw [h]
theorem aFr (v:V) (wr:List (Nat × Option aI)) (k:V->List (Nat × Option aI)->Option β):GJ (some (v,wr)) k = k v wr:=rfl
theorem aCV (b:Bool) (x y:Option β):L9 (.d (.bool b)) x y = if b = true then x else y:=rfl
variable {T:wE} {k:Ex->St->Option β}
theorem aKv (s:St):b6 T .skip s k = k .normal s:=by unfold b6; rw [aP8]; rfl
theorem aKt (id:Nat) (s:St):b6 T (.exit id) s k = k (.exit id) s:=by unfold b6; rw [aPJ]; rfl
theorem aPD (s:St):b6 T .ret s k = k .ret s:=by unfold b6; rw [aRO]; rfl
theorem aDf (l:List aO) (s:St):b6 T (.region l none) s k = tP T l s (k .normal):=by
 unfold b6 tP
 rw [UF]
 simp only [fT]
 cases iP (call T) l s <;> rfl
theorem aJT (l:List aO) (ps:List (Nat × Nat)) (s:St):b6 T (.region l (some ps)) s k = aOT T l ps s (k .normal):=by
 unfold b6 aOT
 rw [UF]
 cases fT (call T) l (some ps) s <;> rfl
theorem aN8 (a b:aG) (s:St):b6 T (.seq a b) s k = b6 T a s (aOS (fun s'=>b6 T b s' k) k):=by
 unfold b6
 rw [aQX]
 cases ev T a s with
 | none=>rfl
 | some r =>
  obtain ⟨e,s'⟩:=r
  cases e <;> rfl
theorem aLO (c:bM) (a b:aG) (s:St):b6 T (.cond c a b) s k = L9 (bL s.get c) (b6 T a s k) (b6 T b s k):=by
 unfold b6
 rw [aNZ]
 generalize bL s.get c = v
 cases v with
 | d x=>cases x with
  | bool b=>cases b <;> rfl
  | _=>rfl
 | _=>rfl
theorem aFF (id:Nat) (a:aG) (s:St):b6 T (.block id a) s k = b6 T a s (QC id k):=by
 unfold b6
 rw [aKS]
 cases ev T a s with
 | none=>rfl
 | some r =>
  obtain ⟨e,s'⟩:=r
  cases e with
  | normal=>rfl
  | exit i =>
   simp only [Option.bind_some,QC]
   by_cases h:i = id
   ·simp [h]
   ·simp [h]
  | ret=>rfl
theorem aNf (m:tU) (a:aG) (s:St):b6 T (.pre m a) s k = b6 T a (m.app s) k:=rfl
theorem aIw (m:tU) (a:aG) (s:St):b6 T (.post a m) s k = b6 T a s (X0 m k):=by
 unfold b6
 rw [aOz]
 cases ev T a s with
 | none=>rfl
 | some r =>
  obtain ⟨e,s'⟩:=r
  cases e <;> rfl
theorem bE {S X:Type} {step:S->Option (S ⊕ X)} {c:aG} (enc:S->St) (out:X->Ex × St) (hout:∀ x s,out x ≠ (.normal,s))
  (h:∀ s,b6 T c (enc s) (fun e s'=>some (e,s')) = cU enc out (step s)) (s:S) :
  b6 T (.loop c) (enc s) k = (dK step s).bind fun x=>k (out x).1 (out x).2:=by
 unfold b6
 rw [aJN enc out hout (fun s=>by
  have:=h s
  unfold b6 at this
  rw [← this]
  cases ev T c (enc s) <;> rfl) s]
 cases dK step s <;> rfl
theorem aMx (ops:List aO) (args:List bM) (dst:Option Nat) (f:Nat) (body:aG) (res:List j5) (id:Nat) (slots:List Nat) (s:St) :
  b6 T (.inl ops args dst f body res id slots) s k = tP T ops s fun s1=>(UM args id slots s1).bind fun s2=>b6 T body s2 fun ex s3=>match ex with
   | .exit _=>none
   | _=>(lG dst res id slots s3).bind fun s4=>k .normal s4:=by
 unfold b6 tP
 rw [aRS]
 cases iP (call T) ops s with
 | none=>rfl
 | some s1 =>
  simp only [Option.bind_some]
  cases UM args id slots s1 with
  | none=>rfl
  | some s2 =>
   simp only [Option.bind_some]
   cases ev T body s2 with
   | none=>rfl
   | some q =>
    obtain ⟨e,s3⟩:=q
    cases e with
    | normal=>simp only [Option.bind_some]; cases lG dst res id slots s3 <;> rfl
    | exit i=>rfl
    | ret=>simp only [Option.bind_some]; cases lG dst res id slots s3 <;> rfl
theorem aSk (k1:St->Option β) (k:Ex->St->Option β) (s:St):aOS k1 k .normal s = k1 s:=rfl
theorem aRq (k1:St->Option β) (k:Ex->St->Option β) (i:Nat) (s:St):aOS k1 k (.exit i) s = k (.exit i) s:=rfl
theorem aQ8 (k1:St->Option β) (k:Ex->St->Option β) (s:St):aOS k1 k .ret s = k .ret s:=rfl
theorem aIA (id:Nat) (k:Ex->St->Option β) (s:St):QC id k .normal s = k .normal s:=rfl
theorem aIJ (id:Nat) (k:Ex->St->Option β) (i:Nat) (s:St):QC id k (.exit i) s = if i = id then k .normal s else k (.exit i) s:=rfl
theorem aJU (id:Nat) (k:Ex->St->Option β) (s:St):QC id k .ret s = k .ret s:=rfl
theorem aNh (m:tU) (k:Ex->St->Option β) (s:St):X0 m k .normal s = k .normal (m.app s):=rfl
theorem aPB (m:tU) (k:Ex->St->Option β) (i:Nat) (s:St):X0 m k (.exit i) s = k (.exit i) s:=rfl
theorem aOs (m:tU) (k:Ex->St->Option β) (s:St):X0 m k .ret s = k .ret s:=rfl
theorem aLG (s:St) (k:St->Option β):tP T [] s k = k s:=rfl
theorem UX (d:Option Nat) (op:fU) (st:Nat) (l:List aO) (s:St) (k:St->Option β) :
  tP T (⟨d,op,none,st⟩ :: l) s k = GJ (cJ (call T) st (bL s.get) s.blk op) fun v wr=>tP T l (s.put d v wr) k:=by
 unfold tP GJ
 simp only [iP,yP,aO.wants]
 cases cJ (call T) st (bL s.get) s.blk op with
 | none=>rfl
 | some r=>rfl
noncomputable def lU (T:wE):List aO->St->List Fp->(St->List Fp->Option β)->Option β
 | [],s,fp,k=>k s fp
 | o :: l,s,fp,k=>match jI (call T) o s with
  | some (s',p)=>lU T l s' (p :: fp) k
  | none=>none
theorem aIZ (l:List aO) (s:St) (fp:List Fp) (k:St->List Fp->Option β):lU T l s fp k = (jD (call T) l s).bind fun r=>k r.1 (r.2.reverse ++ fp):=by
 induction l generalizing s fp with
 | nil=>rfl
 | cons o l ih =>
  simp only [lU,jD]
  cases jI (call T) o s with
  | none=>rfl
  | some q =>
   obtain ⟨s',p⟩:=q
   simp only [ih]
   cases jD (call T) l s' with
   | none=>rfl
   | some r=>obtain ⟨s'',ps⟩:=r; simp
def aN6 (l:List aO) (ps:List (Nat × Nat)) (k:St->Option β) (s:St) (fp:List Fp):Option β:=if MG l fp.reverse ps = true then k s else none
theorem aNq (l:List aO) (ps:List (Nat × Nat)) (s:St) (k:St->Option β):aOT T l ps s k = lU T l s [] (aN6 l ps k):=by
 rw [aIZ]
 unfold aOT
 simp only [fT]
 cases jD (call T) l s with
 | none=>rfl
 | some r =>
  obtain ⟨s',fp⟩:=r
  simp only [Option.bind_some,aN6,List.append_nil,List.reverse_reverse]
  cases h:MG l fp ps <;> simp
theorem Q5 (d:Option Nat) (op:fU) (st:Nat) (l:List aO) (s:St) (fp:List Fp) (k:St->List Fp->Option β) :
  lU T (⟨d,op,none,st⟩ :: l) s fp k = GJ (cJ (call T) st (bL s.get) s.blk op) fun v wr=>lU T l (s.put d v wr) (yB ⟨d,op,none,st⟩ s.get s.blk wr :: fp) k:=by
 unfold GJ
 simp only [lU,jI,aO.wants]
 cases cJ (call T) st (bL s.get) s.blk op with
 | none=>rfl
 | some r=>rfl
theorem CR (fr:List (Nat × V)) (bl:List (Nat × Option aI)) (t:Nat):St.get ⟨fr,bl⟩ t = lk fr .any t:=rfl
theorem NH (fr:List (Nat × V)) (bl:List (Nat × Option aI)) (i:Nat):St.blk ⟨fr,bl⟩ i = lk bl none i:=rfl
theorem aSS (live keep:List Nat) (p:Nat × Nat × Nat × Nat) (l:List (Nat × Nat × Nat × Nat)) (c:List (Nat × Nat × Nat × Nat × Nat)) (ft:List Nat) (fc:List (Nat × Nat)) (s:St):tU.app ⟨live,keep,p :: l,c,ft,fc⟩ s = tU.app ⟨live,keep,l,c,ft,fc⟩ (mkT p s):=rfl
theorem aTz (live keep:List Nat) (p:Nat × Nat × Nat × Nat × Nat) (c:List (Nat × Nat × Nat × Nat × Nat)) (ft:List Nat) (fc:List (Nat × Nat)) (s:St):tU.app ⟨live,keep,[],p :: c,ft,fc⟩ s = tU.app ⟨live,keep,[],c,ft,fc⟩ (mkC p s):=rfl
theorem aQN (live keep:List Nat) (p:Nat) (ft:List Nat) (fc:List (Nat × Nat)) (s:St):tU.app ⟨live,keep,[],[],p :: ft,fc⟩ s = tU.app ⟨live,keep,[],[],ft,fc⟩ (NA p s):=rfl
theorem aSa (live keep:List Nat) (p:Nat × Nat) (fc:List (Nat × Nat)) (s:St):tU.app ⟨live,keep,[],[],[],p :: fc⟩ s = tU.app ⟨live,keep,[],[],[],fc⟩ (frC p s):=rfl
end
end Vm
end Go.Proofs.Ytgjcnbgfaimepaa
namespace Go.Proofs.Ytgjcnbgfaimepaa
namespace Vm
open Go.RowKit
def at? {α:Type} (xs:List α) (n:Int):Option α:=if 0 <= n then xs[n.toNat]? else none
def cI (n:Int):List D:=[.int .i64 n]
def cB (b:Bool):List D:=[.bool b]
def cS (s:ByteArray):List D:=[.str s]
def cK (k:IntKind) (n:Int):List D:=[.int k n]
def cM {α:Type} (c:α->List D) (xs:List α):List (List D):=xs.map c
def cL {α:Type} (c:α->List D) (xs:List α):List D:=[.sl (cM c xs)]
def iR {α:Type} (xs:List α) (l h:Int):List α:=(xs.take h.toNat).drop l.toNat
def jJ (n:Nat) (l h:Int):Prop:=0 <= l ∧ l <= h ∧ h.toNat <= n
instance (n:Nat) (l h:Int):Decidable (jJ n l h):=inferInstanceAs (Decidable (_ ∧ _ ∧ _))
def sAt (s:ByteArray) (n:Int):Option Int:=if 0 <= n then s[n.toNat]?.map fun b=>(b.toNat:Int) else none
section
variable {β:Type} {T:wE} {site:Nat} {ev:bM->V} {bl:Nat->Option aI} (k:V->List (Nat × Option aI)->Option β)
def VL (size:Nat) (x i:V) (bl:Nat->Option aI):J1:=match i with
  | .d (.int _ n)=>match x with
   | .own id ver=>match bl id with
    | some (.rows v e sz rows)=>if ver = v ∧ sz = size ∧ 0 <= n ∧ n.toNat < rows.length then some (.orow id ver n.toNat 0,[]) else none
    | some (.froz v rows)=>if ver = v ∧ 0 <= n then match rows[n.toNat]? with
     | some row=>if row.length = size then some (.d (.ptr row 0),[]) else none
     | none=>none
     else none
    | _=>none
   | .d (.sl rows)=>if 0 <= n then match rows[n.toNat]? with
    | some row=>if row.length = size then some (.d (.ptr row 0),[]) else none
    | none=>none
    else none
   | _=>none
  | _=>none
theorem TG (C:Nat->List D->Option D) (size:Nat) (x i:bM):cJ C site ev bl (.indexAddr size x i) = VL size (ev x) (ev i) bl:=rfl
theorem aNa {α:Type} (size:Nat) (c:α->List D) (xs:List α) (kd:IntKind) (n:Int) (bl:Nat->Option aI):GJ (VL size (.d (.sl (cM c xs))) (.d (.int kd n)) bl) k = (at? xs n).bind fun x=>if (c x).length = size then k (.d (.ptr (c x) 0)) [] else none:=by
 simp only [VL,at?,cM]
 by_cases h:0 <= n
 ·rw [if_pos h,if_pos h,List.getElem?_map]
  cases xs[n.toNat]? with
  | none=>rfl
  | some x =>
   simp only [Option.map_some,Option.bind_some]
   by_cases h2:(c x).length = size
   ·rw [if_pos h2,if_pos h2]; rfl
   ·rw [if_neg h2,if_neg h2]; rfl
 ·rw [if_neg h,if_neg h]; rfl
def aJ1 (size id ver:Nat) (n:Int) (b:Option aI):J1:=match b with
 | some (.rows v e sz rows)=>if ver = v ∧ sz = size ∧ 0 <= n ∧ n.toNat < rows.length then some (.orow id ver n.toNat 0,[]) else none
 | some (.froz v rows)=>if ver = v ∧ 0 <= n then match rows[n.toNat]? with
  | some row=>if row.length = size then some (.d (.ptr row 0),[]) else none
  | none=>none
  else none
 | _=>none
theorem aHM (size id ver v e sz:Nat) (n:Int) (rows:List (List D)) (k:V->List (Nat × Option aI)->Option β):GJ (aJ1 size id ver n (some (.rows v e sz rows))) k = if ver = v then (if sz = size then (if 0 <= n ∧ n.toNat < rows.length then k (.orow id ver n.toNat 0) [] else none) else none) else none:=by
 simp only [aJ1]
 by_cases h1:ver = v
 ·by_cases h2:sz = size
  ·by_cases h3:0 <= n ∧ n.toNat < rows.length
   ·rw [if_pos ⟨h1,h2,h3⟩,if_pos h1,if_pos h2,if_pos h3]; rfl
   ·rw [if_neg (fun q=>h3 q.2.2),if_pos h1,if_pos h2,if_neg h3]; rfl
  ·rw [if_neg (fun q=>h2 q.2.1),if_pos h1,if_neg h2]; rfl
 ·rw [if_neg (fun q=>h1 q.1),if_neg h1]; rfl
theorem aHm {α:Type} (size id ver v:Nat) (n:Int) (c:α->List D) (xs:List α) (k:V->List (Nat × Option aI)->Option β):GJ (aJ1 size id ver n (some (.froz v (cM c xs)))) k = if ver = v then ((at? xs n).bind fun x=>if (c x).length = size then k (.d (.ptr (c x) 0)) [] else none) else none:=by
 simp only [aJ1,at?,cM]
 by_cases h1:ver = v
 ·by_cases h:0 <= n
  ·rw [if_pos ⟨h1,h⟩,if_pos h1,if_pos h,List.getElem?_map]
   cases xs[n.toNat]? with
   | none=>rfl
   | some x =>
    simp only [Option.map_some,Option.bind_some]
    by_cases h2:(c x).length = size
    ·rw [if_pos h2,if_pos h2]; rfl
    ·rw [if_neg h2,if_neg h2]; rfl
  ·rw [if_neg (fun q=>h q.2),if_pos h1,if_neg h]; rfl
 ·rw [if_neg (fun q=>h1 q.1),if_neg h1]; rfl
def aAB (size:Nat) (isAgg:Bool) (off:Nat) (row:List D):J1 :=
 if isAgg then (if off + size <= row.length then some (.agg (((row.drop off).take size).map .d),[]) else none) else row[off]?.map fun v=>(.d v,[])
def aEj (size:Nat) (isAgg:Bool) (off:Nat) (b:Option aI):J1:=match b with
 | some (.box cs) =>
  if isAgg then (if off + size <= cs.length then some (.agg ((cs.drop off).take size),[]) else none)
  else cs[off]?.map fun v=>(v,[])
 | some (.fbox row)=>aAB size isAgg off row
 | _=>none
def aJK (size:Nat) (isAgg:Bool) (ver i off:Nat) (b:Option aI):J1:=match b with
 | some (.rows v e sz rows)=>if ver = v then match rows[i]? with
  | some row=>aAB size isAgg off row
  | none=>none
  else none
 | _=>none
def MJ (size:Nat) (isAgg:Bool) (x:V) (bl:Nat->Option aI):J1:=match x with
 | .ptr id off=>aEj size isAgg off (bl id)
 | .d (.ptr row off)=>aAB size isAgg off row
 | .orow id ver i off=>aJK size isAgg ver i off (bl id)
 | _=>none
theorem H8 (C:Nat->List D->Option D) (size:Nat) (isAgg:Bool) (x:bM):cJ C site ev bl (.load size isAgg x) = MJ size isAgg (ev x) bl:=rfl
theorem aGd (size:Nat) (isAgg:Bool) (id off:Nat) (bl:Nat->Option aI):MJ size isAgg (.ptr id off) bl = aEj size isAgg off (bl id):=rfl
theorem aNv (size:Nat) (isAgg:Bool) (id ver i off:Nat) (bl:Nat->Option aI):MJ size isAgg (.orow id ver i off) bl = aJK size isAgg ver i off (bl id):=rfl
theorem aOO (size off:Nat) (cs:List V):aEj size true off (some (.box cs)) = if off + size <= cs.length then some (.agg ((cs.drop off).take size),[]) else none:=rfl
theorem aPj (size off:Nat) (cs:List V):aEj size false off (some (.box cs)) = cs[off]?.map fun v=>(v,[]):=rfl
def QU (size ver i off id:Nat) (fz:List (Nat × Option aI)) (ds:Option (List D)) (b:Option aI):J1:=match b with
 | some (.rows w e sz rows)=>if ver = w then match rows[i]?,ds with
  | some row,some ds=>if ds.length = size ∧ off + size <= row.length ∧ AY id fz = true then some (.any,(id,some (.rows w e sz (rows.set i (iU row off ds)))) :: fz) else none
  | _,_=>none
  else none
 | _=>none
def aCM (size off id:Nat) (v:V) (b:Option aI):J1:=match b with
 | some (.box cs)=>if v.cells.length = size ∧ off + size <= cs.length ∧ v.known = true then some (.any,[(id,some (.box (iU cs off v.cells)))]) else none
 | _=>none
def aDb (size:Nat) (x v:V) (bl:Nat->Option aI):J1:=match x with
 | .ptr id off=>aCM size off id v (bl id)
 | .orow id ver i off=>QU size ver i off id (vX bl v) (aK (iX bl) v.cells) (bl id)
 | _=>none
theorem aHF (C:Nat->List D->Option D) (size:Nat) (x v:bM):cJ C site ev bl (.store size x v) = aDb size (ev x) (ev v) bl:=rfl
theorem aLb (size id off:Nat) (v:V) (bl:Nat->Option aI):aDb size (.ptr id off) v bl = aCM size off id v (bl id):=rfl
theorem aIS (size id ver i off:Nat) (v:V) (bl:Nat->Option aI):aDb size (.orow id ver i off) v bl = QU size ver i off id (vX bl v) (aK (iX bl) v.cells) (bl id):=rfl
theorem aBC (size off id:Nat) (v:V) (cs:List V):aCM size off id v (some (.box cs)) = if v.cells.length = size ∧ off + size <= cs.length ∧ v.known = true then some (.any,[(id,some (.box (iU cs off v.cells)))]) else none:=rfl
theorem aFO (C:Nat->List D->Option D) (size:Nat) (x:bM) (lo hi:Option bM):cJ C site ev bl (.slice size x lo hi) = xB bl size (ev x) (lo.map ev) (hi.map ev):=rfl
def aKY (ver:Nat) (b:Option aI):Option (List (List D)):=match b with
 | some (.rows v _ _ rows)=>if ver = v then some rows else none
 | some (.froz v rows)=>if ver = v then some rows else none
 | _=>none
def C2 (v:Option V) (d:Int):Option Int:=match v with
 | none=>some d
 | some (.d (.int _ h))=>some h
 | _=>none
theorem aFk {α:Type} (size:Nat) (c:α->List D) (xs:List α) (lo hi:Option V) (l h:Int) (hl:C2 lo 0 = some l) (hh:C2 hi (xs.length:Int) = some h) (hs:sized size (cM c xs) = true) (bl:Nat->Option aI):GJ (xB bl size (.d (.sl (cM c xs))) lo hi) k = if jJ xs.length l h then k (.d (.sl (cM c (iR xs l h)))) [] else none:=by
 have e0:∀ lo' hi',xB bl size (.d (.sl (cM c xs))) lo' hi' = (match C2 hi' ((cM c xs).length:Int),C2 lo' 0 with
   | some h,some l=>if 0 <= l ∧ l <= h ∧ h.toNat <= (cM c xs).length ∧ sized size (cM c xs) = true then some (.d (.sl (((cM c xs).take h.toNat).drop l.toNat)),[]) else none
   | _,_=>none):=fun lo' hi'=>rfl
 rw [e0,show ((cM c xs).length:Int) = (xs.length:Int) by simp [cM],hl,hh]
 simp only [show (cM c xs).length = xs.length by simp [cM]]
 by_cases q:jJ xs.length l h
 ·rw [if_pos q,if_pos ⟨q.1,q.2.1,q.2.2,hs⟩]
  simp only [aFr,cM,iR,List.map_drop,List.map_take]
 ·rw [if_neg q,if_neg (fun w=>q ⟨w.1,w.2.1,w.2.2.1⟩)]; rfl
def IG (x i:V):J1:=match x,i with
  | .d (.str s),.d (.int _ n)=>if 0 <= n then match s[n.toNat]? with
   | some b=>some (.d (.int .u8 b.toNat),[])
   | none=>none
   else none
  | _,_=>none
theorem aGQ (C:Nat->List D->Option D) (x i:bM):cJ C site ev bl (.index x i) = IG (ev x) (ev i):=rfl
theorem aMh (s:ByteArray) (kd:IntKind) (n:Int):GJ (IG (.d (.str s)) (.d (.int kd n))) k = (sAt s n).bind fun b=>k (.d (.int .u8 b)) []:=by
 simp only [IG,sAt]
 split
 ·cases s[n.toNat]? <;> rfl
 ·rfl
end
section
variable {S X:Type} {enc:S->St} {out:X->Ex × St}
theorem aGE (c:Prop) [Decidable c] (a b:Option (S ⊕ X)):cU enc out (if c then a else b) = if c then cU enc out a else cU enc out b:=by split <;> rfl
theorem aCK {α:Type} (o:Option α) (f:α->Option (S ⊕ X)):cU enc out (o.bind f) = o.bind fun x=>cU enc out (f x):=by cases o <;> rfl
theorem aDv:cU enc out none = none:=rfl
theorem aFH (s:S):cU enc out (some (.inl s)) = some (.normal,enc s):=rfl
theorem aFU (x:X):cU enc out (some (.inr x)) = some (out x):=rfl
end
theorem qR {α:Type} (size:Nat) (c:α->List D) (hc:∀ x,(c x).length = size) (xs:List α):sized size (cM c xs) = true:=by
 simp [sized,cM,hc]
theorem aJk (xs:List Int):sized 1 (cM cI xs) = true:=qR _ _ (fun x=>by rfl) xs
theorem aLv (k:IntKind) (xs:List Int):sized 1 (cM (cK k) xs) = true:=qR _ _ (fun x=>by rfl) xs
theorem Z1 (xs:List Bool):sized 1 (cM cB xs) = true:=qR _ _ (fun x=>by rfl) xs
theorem aKi (xs:List ByteArray):sized 1 (cM cS xs) = true:=qR _ _ (fun x=>by rfl) xs
theorem aJf {α:Type} (c:α->List D) (xs:List (List α)):sized 1 (cM (cL c) xs) = true:=qR _ _ (fun x=>by rfl) xs
theorem vS {α:Type} (c:α->List D) (xs:List α):(cM c xs).length = xs.length:=by simp [cM]
theorem aFc {α:Type} (c:α->List D) (xs ys:List α):cM c xs ++ cM c ys = cM c (xs ++ ys):=by simp [cM]
theorem aRh {α:Type} (c:α->List D) (xs:List α) (i:Nat) (x:α):cM c (xs.set i x) = (cM c xs).set i (c x):=by simp [cM,List.map_set]
theorem WQ {α:Type} (c:α->List D) (n:Nat) (x:α):cM c (List.replicate n x) = List.replicate n (c x):=by simp [cM]
theorem aMg {α γ:Type} (c:Prop) [Decidable c] (a b:Option α) (f:α->Option γ):(if c then a else b).bind f = if c then a.bind f else b.bind f:=by split <;> rfl
theorem aOI {α γ:Type} (c:Prop) [Decidable c] (a b:Option α) (f:α->γ):(if c then a else b).map f = if c then a.map f else b.map f:=by split <;> rfl
theorem bind_map {α γ δ:Type} (o:Option α) (f:α->Option γ) (g:γ->δ):(o.bind f).map g = o.bind fun x=>(f x).map g:=by cases o <;> rfl
theorem aEY {α γ:Type} (f:α->Option γ):(none:Option α).bind f = none:=rfl
theorem aGs {α γ δ ε:Type} (f:α->Option δ) (g:γ->Option δ) (x:α ⊕ γ) (h:δ->Option ε):(Sum.elim f g x).bind h = Sum.elim (fun y=>(f y).bind h) (fun y=>(g y).bind h) x:=by cases x <;> rfl
theorem aLN {α γ δ ε:Type} (f:α->Option δ) (g:γ->Option δ) (x:α ⊕ γ) (h:δ->ε):(Sum.elim f g x).map h = Sum.elim (fun y=>(f y).map h) (fun y=>(g y).map h) x:=by cases x <;> rfl
def gIf {α:Type} (b:Bool) (x y:α):α:=if b = true then x else y
theorem aLu {α:Type} (b:Bool) (x y:α):gIf b x y = if b = true then x else y:=rfl
theorem aC8 {S X α γ:Type} {enc:S->St} {out:X->Ex × St} (f:α->Option (S ⊕ X)) (g:γ->Option (S ⊕ X)) (x:α ⊕ γ):cU enc out (Sum.elim f g x) = Sum.elim (fun y=>cU enc out (f y)) (fun y=>cU enc out (g y)) x:=by cases x <;> rfl
def aUV (sf:dE):Ex->St->Option D
 | .normal,s=>HM sf s
 | .ret,s=>HM sf s
 | .exit _,_=>none
theorem XS {T:wE} {f:Nat} {sf:dE} (hf:T f = some (.code sf)) (ds:List D) (hl:ds.length = sf.np) (hlt:jH 0 ds = none):Vm.call T f ds = b6 T sf.body ⟨nV 0 ds,[]⟩ (aUV sf):=by
 rw [aQf hf ds hl hlt]
 unfold b6
 cases Vm.ev T sf.body ⟨nV 0 ds,[]⟩ with
 | none=>rfl
 | some q =>
  obtain ⟨e,s⟩:=q
  cases e <;> rfl
theorem aM {α β:Type} (o:Option α) {f g:α->Option β} (h:∀ x,f x = g x):o.bind f = o.bind g:=by rw [funext h]
end Vm
end Go.Proofs.Ytgjcnbgfaimepaa
namespace Go.Proofs.Ytgjcnbgfaimepaa
namespace Vm
open Go.RowKit
section
variable {β:Type}
def iQ (fr:List (Nat × V)) (t:Nat) (k:V->Option β):Option β:=k (lk fr .any t)
def bG (bl:List (Nat × Option aI)) (i:Nat) (k:Option aI->Option β):Option β:=k (lk bl none i)
def bV (fr:List (Nat × V)) (o:bM) (k:V->Option β):Option β:=k (bL (lk fr .any) o)
theorem aLf (t:Nat) (v:V) (fr:List (Nat × V)) (k:V->Option β):iQ ((t,v) :: fr) t k = k v:=by simp [iQ,lk]
theorem aHN (a t:Nat) (v:V) (fr:List (Nat × V)) (k:V->Option β) (h:(t == a) = false):iQ ((a,v) :: fr) t k = iQ fr t k:=by
 have:¬ t = a:=by simpa using h
 simp [iQ,lk,this]
theorem aIp (t:Nat) (k:V->Option β):iQ [] t k = k .any:=rfl
theorem aKH (t:Nat) (v:Option aI) (fr:List (Nat × Option aI)) (k:Option aI->Option β):bG ((t,v) :: fr) t k = k v:=by simp [bG,lk]
theorem aHo (a t:Nat) (v:Option aI) (fr:List (Nat × Option aI)) (k:Option aI->Option β) (h:(t == a) = false):bG ((a,v) :: fr) t k = bG fr t k:=by
 have:¬ t = a:=by simpa using h
 simp [bG,lk,this]
theorem aH3 (t:Nat) (k:Option aI->Option β):bG [] t k = k none:=rfl
theorem aOn (bl:List (Nat × Option aI)) (t:Nat) (k:Option aI->Option β):bG ([] ++ bl) t k = bG bl t k:=rfl
theorem aPe (p:Nat × Option aI) (w bl:List (Nat × Option aI)) (t:Nat) (k:Option aI->Option β):bG ((p :: w) ++ bl) t k = bG (p :: (w ++ bl)) t k:=rfl
theorem aRu (fr:List (Nat × V)) (t:Nat) (k:V->Option β):bV fr (.t t) k = iQ fr t k:=rfl
theorem aR0 (fr:List (Nat × V)) (v:V) (k:V->Option β):bV fr (.c v) k = k v:=rfl
def aR (ds:List D):List V:=ds.map .d
def kY (ds:List D):V:=.agg (aR ds)
noncomputable def rN (T:wE) (d:Nat) (op:fU) (fr:List (Nat × V)) (bl:List (Nat × Option aI)) (k:V->Option β) (kw:V->List (Nat × Option aI)->Option β):Option β :=
 match cJ (call T) d (bL (lk fr .any)) (lk bl none) op with
 | none=>none
 | some (v,[])=>k v
 | some (v,p :: wr)=>kw v (p :: wr)
theorem aHa {T:wE} (d st:Nat) (op:fU) (l:List aO) (fr:List (Nat × V)) (bl:List (Nat × Option aI)) (k:St->Option β) :
  tP T (⟨some d,op,none,st⟩ :: l) ⟨fr,bl⟩ k = rN T st op fr bl (fun v=>tP T l ⟨(d,v) :: fr,bl⟩ k) (fun v wr=>tP T l ⟨(d,v) :: fr,wr ++ bl⟩ k):=by
 rw [UX]
 unfold rN GJ
 show (match cJ (call T) st (bL (lk fr .any)) (lk bl none) op with | some (v,wr)=>_ | none=>none) = _
 cases cJ (call T) st (bL (lk fr .any)) (lk bl none) op with
 | none=>rfl
 | some r=>obtain ⟨v,wr⟩:=r; cases wr <;> rfl
theorem aCY {T:wE} (st:Nat) (op:fU) (l:List aO) (fr:List (Nat × V)) (bl:List (Nat × Option aI)) (k:St->Option β) :
  tP T (⟨none,op,none,st⟩ :: l) ⟨fr,bl⟩ k = rN T st op fr bl (fun _=>tP T l ⟨fr,bl⟩ k) (fun _ wr=>tP T l ⟨fr,wr ++ bl⟩ k):=by
 rw [UX]
 unfold rN GJ
 show (match cJ (call T) st (bL (lk fr .any)) (lk bl none) op with | some (v,wr)=>_ | none=>none) = _
 cases cJ (call T) st (bL (lk fr .any)) (lk bl none) op with
 | none=>rfl
 | some r=>obtain ⟨v,wr⟩:=r; cases wr <;> rfl
def L8 (t:Nat) (b:Bool) (op:fU):fU:=match op with
 | .pick (.t t') x y=>if t' = t then .move (if b then x else y) else op
 | op=>op
def L3 (t:Nat) (b:Bool) (o:aO):aO:=match o.guard with
 | some (t',w)=>if t' = t then (if w = b then ⟨o.dst,L8 t b o.op,none,o.site⟩ else ⟨o.dst,.move (.c (.tup [])),none,o.site⟩) else ⟨o.dst,L8 t b o.op,some (t',w),o.site⟩
 | none=>⟨o.dst,L8 t b o.op,none,o.site⟩
def AP (t:Nat) (b:Bool):List aO->List aO
 | []=>[]
 | o :: l=>L3 t b o :: (if o.dst = some t then l else AP t b l)
theorem AK {C:Nat->List D->Option D} {site:Nat} {fr:Nat->V} {bl:Nat->Option aI} {t:Nat} {b:Bool} (h:fr t = .d (.bool b)) (op:fU):cJ C site (bL fr) bl (L8 t b op) = cJ C site (bL fr) bl op:=by
 cases op with
 | pick c x y =>
  cases c with
  | t t' =>
   simp only [L8]
   split
   ·rename_i e
    subst e
    simp only [cJ,bL,h]
    cases b <;> rfl
   ·rfl
  | c v=>rfl
 | _=>rfl
theorem aGB {C:Nat->List D->Option D} {s:St} {t:Nat} {b:Bool} (h:s.get t = .d (.bool b)) (o:aO):yP C (L3 t b o) s = yP C o s:=by
 obtain ⟨d,op,g,st⟩:=o
 cases g with
 | some g =>
  obtain ⟨t',w⟩:=g
  simp only [L3]
  split
  ·rename_i e
   subst e
   split
   ·rename_i e
    subst e
    simp only [yP,aO.wants,h,AK h]
    cases w <;> rfl
   ·rename_i e
    simp only [yP,aO.wants,h,cJ,bL]
    cases w <;> cases b <;> simp_all [yL]
  ·simp only [yP,aO.wants,AK h]
 | none=>simp only [L3,yP,aO.wants,AK h]
theorem E1 {s:St} {d:Option Nat} {v:V} {wr:List (Nat × Option aI)} {t:Nat} (h:¬ d = some t):(s.put d v wr).get t = s.get t:=by
 cases d with
 | none=>rfl
 | some a =>
  show lk ((a,v) :: s.fr) .any t = lk s.fr .any t
  have:¬ t = a:=fun e=>h (by rw [e])
  simp [lk,this]
theorem aF1 {C:Nat->List D->Option D} {o:aO} {s s' : St} {t:Nat} (h:¬ o.dst = some t) (e:yP C o s = some s'):s'.get t = s.get t:=by
 unfold yP at e
 split at e
 ·split at e
  ·cases e; exact E1 h
  ·cases e
 ·cases e; exact E1 h
 ·cases e
theorem NQ {C:Nat->List D->Option D} {t:Nat} {b:Bool}:∀ (l:List aO) {s:St} (h:s.get t = .d (.bool b)),iP C (AP t b l) s = iP C l s
 | [],s,h=>rfl
 | o :: l,s,h=>by
  simp only [AP,iP,aGB h]
  cases e:yP C o s with
  | none=>rfl
  | some s' =>
   simp only
   split
   ·rfl
   ·rename_i hd
    exact NQ l (by rw [aF1 hd e]; exact h)
noncomputable def KC (T:wE) (v:V) (t:Nat) (l:List aO) (s:St) (k:St->Option β):Option β:=match v with
 | .d (.bool b)=>if b = true then tP T (AP t true l) s k else tP T (AP t false l) s k
 | .tup []=>match l with
  | o :: r=>tP T r (s.put o.dst (.tup []) []) k
  | []=>none
 | _=>none
theorem aCi {T:wE} (d:Option Nat) (op:fU) (t:Nat) (w:Bool) (st:Nat) (l:List aO) (fr:List (Nat × V)) (bl:List (Nat × Option aI)) (k:St->Option β) :
  tP T (⟨d,op,some (t,w),st⟩ :: l) ⟨fr,bl⟩ k = iQ fr t fun v=>KC T v t (⟨d,op,some (t,w),st⟩ :: l) ⟨fr,bl⟩ k:=by
 show _ = KC T (lk fr .any t) t _ _ k
 generalize hv:lk fr .any t = v
 have bad:∀ (q:yL v w = .bad),tP T (⟨d,op,some (t,w),st⟩ :: l) ⟨fr,bl⟩ k = none:=by
  intro q
  unfold tP
  simp only [iP,yP,aO.wants]
  rw [show (St.get ⟨fr,bl⟩ t) = v from hv,q]; rfl
 cases v with
 | d x =>
  cases x with
  | bool b =>
   simp only [KC]
   cases b with
   | true=>rw [if_pos rfl]; unfold tP; rw [NQ (t:=t) (b:=true) (s:=⟨fr,bl⟩) _ hv]
   | false=>rw [if_neg (by decide)]; unfold tP; rw [NQ (t:=t) (b:=false) (s:=⟨fr,bl⟩) _ hv]
  | _=>exact bad rfl
 | tup vs =>
  cases vs with
  | nil =>
   simp only [KC]
   unfold tP
   simp only [iP,yP,aO.wants]
   rw [show (St.get ⟨fr,bl⟩ t) = _ from hv]
   rfl
  | cons x l=>exact bad rfl
 | _=>exact bad rfl
theorem aIC {T:wE} (b:Bool) (t:Nat) (l:List aO) (s:St) (k:St->Option β):KC T (.d (.bool b)) t l s k = if b = true then tP T (AP t true l) s k else tP T (AP t false l) s k:=rfl
theorem aIl {T:wE} (t d st:Nat) (op:fU) (g:Option (Nat × Bool)) (l:List aO) (fr:List (Nat × V)) (bl:List (Nat × Option aI)) (k:St->Option β):KC T (.tup []) t (⟨some d,op,g,st⟩ :: l) ⟨fr,bl⟩ k = tP T l ⟨(d,.tup []) :: fr,bl⟩ k:=rfl
theorem aGb {T:wE} (t st:Nat) (op:fU) (g:Option (Nat × Bool)) (l:List aO) (fr:List (Nat × V)) (bl:List (Nat × Option aI)) (k:St->Option β):KC T (.tup []) t (⟨none,op,g,st⟩ :: l) ⟨fr,bl⟩ k = tP T l ⟨fr,bl⟩ k:=rfl
theorem AO {T:wE} {l l' : List aO} {s:St} {k:St->Option β} (h:l = l'):tP T l s k = tP T l' s k:=by rw [h]
section
variable {T:wE} {d:Nat} {fr:List (Nat × V)} {bl:List (Nat × Option aI)} {k:V->Option β} {kw:V->List (Nat × Option aI)->Option β}
def EE (r:J1) (k:V->Option β) (kw:V->List (Nat × Option aI)->Option β):Option β:=match r with
 | none=>none
 | some (v,[])=>k v
 | some (v,p :: wr)=>kw v (p :: wr)
theorem RS (o:Option D):EE (J1.v o) k kw = o.bind fun x=>k (.d x):=by cases o <;> rfl
theorem aId:rN T d .fail fr bl k kw = none:=rfl
theorem aK0 (x:bM):rN T d (.move x) fr bl k kw = bV fr x k:=rfl
theorem aKO (c a b:bM):rN T d (.pick c a b) fr bl k kw = bV fr c fun v=>L9 v (bV fr a k) (bV fr b k):=by
 unfold rN bV L9
 simp only [cJ]
 generalize bL (lk fr .any) c = v
 cases v with
 | d x=>cases x with
  | bool b=>cases b <;> rfl
  | _=>rfl
 | _=>rfl
theorem aMZ (x y:Option β):L9 (.d (.bool true)) x y = x:=rfl
theorem aMt (x y:Option β):L9 (.d (.bool false)) x y = y:=rfl
def gC (b:Option aI) (x:Option β):Option β:=match b with
 | none=>x
 | some _=>none
theorem aNO (x:Option β):gC none x = x:=rfl
theorem aNB (b:aI) (x:Option β):gC (some b) x = none:=rfl
theorem aF0 (z:List V):rN T d (.alloc z) fr bl k kw = bG bl d fun b=>gC b (kw (.ptr d 0) [(d,some (.box z))]):=by
 unfold rN bG gC
 simp only [cJ]
 cases lk bl none d <;> rfl
def uX (v:V) (k:List V->Option β):Option β:=if v.known = true then k v.cells else none
theorem aKG (x:D) (k:List V->Option β):uX (.d x) k = k [.d x]:=rfl
theorem aBg (k:List V->Option β):uX .nil k = k [.nil]:=rfl
theorem aDk (cs:List V) (k:List V->Option β):uX (.agg cs) k = k cs:=rfl
theorem XK (ds:List D) (k:List V->Option β):uX (kY ds) k = k (aR ds):=rfl
theorem aC1 (i o:Nat) (k:List V->Option β):uX (.ptr i o) k = k [.ptr i o]:=rfl
theorem aB1 (i o:Nat) (k:List V->Option β):uX (.own i o) k = k [.own i o]:=rfl
theorem ZT (i v j o:Nat) (k:List V->Option β):uX (.orow i v j o) k = k [.orow i v j o]:=rfl
theorem aCm (k:List V->Option β):uX .any k = none:=rfl
theorem aNX (x:bM):rN T d (.box x) fr bl k kw = bG bl d fun b=>gC b (bV fr x fun v=>uX v fun cs=>kw (.ptr d 0) [(d,some (.box cs))]):=by
 unfold rN bG gC bV uX
 simp only [cJ]
 cases lk bl none d with
 | none =>
  simp only
  by_cases h:(bL (lk fr .any) x).known = true
  ·rw [if_pos h,if_pos h]
  ·rw [if_neg h,if_neg h]
 | some b=>rfl
def GE (fr:List (Nat × V)):List bM->(List V->Option β)->Option β
 | [],k=>k []
 | x :: l,k=>bV fr x fun v=>GE fr l fun vs=>k (v :: vs)
theorem MU (l:List bM) (k:List V->Option β):GE fr l k = k (l.map (bL (lk fr .any))):=by
 induction l generalizing k with
 | nil=>rfl
 | cons x l ih=>simp only [GE,bV,ih,List.map_cons]
theorem aFW (k:List V->Option β):GE fr [] k = k []:=rfl
theorem aBM (x:bM) (l:List bM) (k:List V->Option β):GE fr (x :: l) k = bV fr x fun v=>GE fr l fun vs=>k (v :: vs):=rfl
def KG (fr:List (Nat × V)):List (Nat × Nat × bM)->(List (Nat × Nat × V)->Option β)->Option β
 | [],k=>k []
 | (o,s,x) :: l,k=>bV fr x fun v=>KG fr l fun vs=>k ((o,s,v) :: vs)
theorem jB (op:fU):rN T d op fr bl k kw = EE (cJ (call T) d (bL (lk fr .any)) (lk bl none) op) k kw:=by
 unfold rN EE
 cases cJ (call T) d (bL (lk fr .any)) (lk bl none) op with
 | none=>rfl
 | some r=>obtain ⟨v,wr⟩:=r; cases wr <;> rfl
theorem C8 (r:J1):EE r k kw = GJ r fun v wr=>match wr with | []=>k v | p :: w=>kw v (p :: w):=by
 cases r with
 | none=>rfl
 | some r=>obtain ⟨v,wr⟩:=r; cases wr <;> rfl
def CB:List V->Nat->(V->Option β)->Option β
 | [],_,_=>none
 | c :: _,0,k=>k c
 | _ :: cs,n + 1,k=>CB cs n k
theorem MV (cs:List V) (n:Nat) (k:V->Option β):CB cs n k = cs[n]?.bind k:=by
 induction cs generalizing n with
 | nil=>rfl
 | cons c cs ih=>cases n with
  | zero=>rfl
  | succ n=>simp only [CB,ih,List.getElem?_cons_succ]
theorem aOo (c:V) (cs:List V) (k:V->Option β):CB (c :: cs) 0 k = k c:=rfl
theorem aNk (c:V) (cs:List V) (n:Nat) (k:V->Option β):CB (c :: cs) (n + 1) k = CB cs n k:=rfl
def fS (ds:List D) (n:Nat) (k:D->Option β):Option β:=ds[n]?.bind k
def yZ (ds:List D) (off size:Nat) (k:List D->Option β):Option β:=if off + size <= ds.length then k ((ds.drop off).take size) else none
def vM (cs:List V) (off size:Nat) (k:List V->Option β):Option β:=if off + size <= cs.length then k ((cs.drop off).take size) else none
theorem aDL (ds:List D) (n:Nat) (k:V->Option β):CB (aR ds) n k = fS ds n fun x=>k (.d x):=by
 rw [MV]
 unfold aR fS
 rw [List.getElem?_map]
 cases ds[n]? <;> rfl
theorem aHw (cs:List V) (n:Nat) (k:List V->Option β) (h:cs.length = n):vM cs 0 n k = k cs:=by
 subst h
 simp [vM]
theorem aCx (c:V) (cs:List V) (off n:Nat) (k:List V->Option β):vM (c :: cs) (off + 1) n k = vM cs off n k:=by
 unfold vM
 simp only [List.length_cons,List.drop_succ_cons]
 by_cases h:off + n <= cs.length
 ·rw [if_pos h,if_pos (by omega)]
 ·rw [if_neg h,if_neg (by omega)]
theorem aBR (c:V) (cs:List V) (n:Nat) (k:List V->Option β):vM (c :: cs) 0 (n + 1) k = vM cs 0 n fun l=>k (c :: l):=by
 unfold vM
 simp only [List.length_cons,List.drop_zero,List.take_succ_cons]
 by_cases h:0 + n <= cs.length
 ·rw [if_pos h,if_pos (by omega)]
 ·rw [if_neg h,if_neg (by omega)]
theorem aCk (cs:List V) (k:List V->Option β):vM cs 0 0 k = k []:=by simp [vM]
theorem VT (ds:List D) (off n:Nat) (k:List V->Option β):vM (aR ds) off n k = yZ ds off n fun l=>k (aR l):=by
 unfold vM yZ aR
 simp only [List.length_map,List.map_take,List.map_drop]
def FQ (size:Nat) (isAgg:Bool) (off:Nat) (b:Option aI) (k:V->Option β):Option β:=match b with
 | some (.box cs)=>if isAgg = true then vM cs off size fun l=>k (.agg l) else CB cs off k
 | some (.fbox row)=>if isAgg = true then yZ row off size fun l=>k (kY l) else fS row off fun x=>k (.d x)
 | _=>none
def SE (size:Nat) (isAgg:Bool) (ver i off:Nat) (b:Option aI) (k:V->Option β):Option β:=match b with
 | some (.rows v e sz rows)=>if ver = v then rows[i]?.bind fun row=>(if isAgg = true then yZ row off size fun l=>k (kY l) else fS row off fun x=>k (.d x)) else none
 | _=>none
def yV (size:Nat) (isAgg:Bool) (x:V) (bl:List (Nat × Option aI)) (k:V->Option β):Option β:=match x with
 | .ptr id off=>bG bl id fun b=>FQ size isAgg off b k
 | .d (.ptr row off)=>if isAgg = true then yZ row off size fun l=>k (kY l) else fS row off fun x=>k (.d x)
 | .orow id ver i off=>bG bl id fun b=>SE size isAgg ver i off b k
 | _=>none
theorem Y4 (size:Nat) (isAgg:Bool) (x:bM):rN T d (.load size isAgg x) fr bl k kw = bV fr x fun v=>yV size isAgg v bl k:=by
 rw [jB,H8]
 unfold bV
 generalize bL (lk fr .any) x = v
 have hD:∀ row off,EE (aAB size isAgg off row) k kw = if isAgg = true then yZ row off size fun l=>k (kY l) else fS row off fun x=>k (.d x):=by
  intro row off
  unfold aAB
  cases isAgg with
  | true=>simp only [if_true,yZ]; split <;> rfl
  | false=>simp only [Bool.false_eq_true,if_false,fS]; cases row[off]? <;> rfl
 cases v with
 | ptr id off =>
  rw [aGd]
  simp only [yV,bG]
  generalize lk bl none id = b
  cases b with
  | none=>rfl
  | some b=>cases b with
   | box cs =>
    cases isAgg with
    | true=>simp only [aOO,FQ,if_true,vM]; split <;> rfl
    | false=>simp only [aPj,FQ,Bool.false_eq_true,if_false,MV]; cases cs[off]? <;> rfl
   | fbox row=>exact hD row off
   | _=>rfl
 | d x=>cases x with
  | ptr row off=>exact hD row off
  | _=>rfl
 | orow id ver i off =>
  rw [aNv]
  simp only [yV,bG]
  generalize lk bl none id = b
  cases b with
  | none=>rfl
  | some b=>cases b with
   | rows v e sz rows =>
    simp only [aJK,SE]
    split
    ·cases rows[i]? with
     | none=>rfl
     | some row=>exact hD row off
    ·rfl
   | _=>rfl
 | _=>rfl
theorem aHx (size:Nat) (isAgg:Bool) (id off:Nat):yV size isAgg (.ptr id off) bl k = bG bl id fun b=>FQ size isAgg off b k:=rfl
theorem aKh (size:Nat) (row:List D) (off:Nat):yV size true (.d (.ptr row off)) bl k = yZ row off size fun l=>k (kY l):=rfl
theorem aLV (size:Nat) (row:List D) (off:Nat):yV size false (.d (.ptr row off)) bl k = fS row off fun x=>k (.d x):=rfl
theorem aPT (size:Nat) (isAgg:Bool) (id ver i off:Nat):yV size isAgg (.orow id ver i off) bl k = bG bl id fun b=>SE size isAgg ver i off b k:=rfl
theorem aG9 (size off:Nat) (row:List D):FQ size true off (some (.fbox row)) k = yZ row off size fun l=>k (kY l):=rfl
theorem aGk (size off:Nat) (row:List D):FQ size false off (some (.fbox row)) k = fS row off fun x=>k (.d x):=rfl
theorem aKj (size off:Nat) (cs:List V):FQ size false off (some (.box cs)) k = CB cs off k:=rfl
theorem aLC (size off:Nat) (c:V) (cs:List V):FQ size true off (some (.box (c :: cs))) k = vM (c :: cs) off size fun l=>k (.agg l):=rfl
theorem aH0 (size off:Nat) (ds:List D):FQ size true off (some (.box (aR ds))) k = yZ ds off size fun l=>k (kY l):=by
 show vM (aR ds) off size (fun l=>k (.agg l)) = _
 rw [VT]; rfl
theorem YF {α:Type} (size:Nat) (isAgg:Bool) (v i off e sz:Nat) (c:α->List D) (xs:List α):SE size isAgg v i off (some (.rows v e sz (cM c xs))) k = xs[i]?.bind fun x=>yV size isAgg (.d (.ptr (c x) off)) [] k:=by
 simp only [SE,if_true,cM,List.getElem?_map]
 cases xs[i]? <;> rfl
def BJ:List V->Nat->V->(List V->Option β)->Option β
 | [],_,_,_=>none
 | _ :: cs,0,v,k=>k (v :: cs)
 | c :: cs,n + 1,v,k=>BJ cs n v fun l=>k (c :: l)
theorem aAL (cs:List V) (n:Nat) (v:V) (k:List V->Option β):BJ cs n v k = if n + 1 <= cs.length then k (iU cs n [v]) else none:=by
 induction cs generalizing n k with
 | nil=>rfl
 | cons c cs ih=>cases n with
  | zero=>rw [if_pos (by simp)]; cases cs <;> rfl
  | succ n =>
   simp only [BJ,ih,iU,List.length_cons]
   by_cases h:n + 1 <= cs.length
   ·rw [if_pos h,if_pos (by omega)]
   ·rw [if_neg h,if_neg (by omega)]
theorem aP6 (c:V) (cs:List V) (v:V) (k:List V->Option β):BJ (c :: cs) 0 v k = k (v :: cs):=rfl
theorem aNn (c:V) (cs:List V) (n:Nat) (v:V) (k:List V->Option β):BJ (c :: cs) (n + 1) v k = BJ cs n v fun l=>k (c :: l):=rfl
def kU (cs:List V) (off:Nat) (ws:List V) (k:List V->Option β):Option β:=if off + ws.length <= cs.length then k (iU cs off ws) else none
theorem U9 {α:Type} (l:List α) (n:Nat):iU l n [] = l:=by cases l <;> rfl
theorem XJ (c:V) (cs:List V) (off:Nat) (ws:List V) (k:List V->Option β) (hw:ws ≠ []):kU (c :: cs) (off + 1) ws k = kU cs off ws fun l=>k (c :: l):=by
 unfold kU
 cases ws with
 | nil=>exact absurd rfl hw
 | cons w ws =>
  simp only [List.length_cons,iU]
  by_cases h:off + (ws.length + 1) <= cs.length
  ·rw [if_pos h,if_pos (by omega)]
  ·rw [if_neg h,if_neg (by omega)]
theorem aDB (c:V) (cs:List V) (w:V) (ws:List V) (k:List V->Option β):kU (c :: cs) 0 (w :: ws) k = kU cs 0 ws fun l=>k (w :: l):=by
 unfold kU
 simp only [List.length_cons,iU]
 by_cases h:0 + ws.length <= cs.length
 ·rw [if_pos h,if_pos (by omega)]
 ·rw [if_neg h,if_neg (by omega)]
theorem aBV (cs:List V) (k:List V->Option β):kU cs 0 [] k = k cs:=by simp [kU,U9]
def aQ (size off id:Nat) (v:V) (b:Option aI) (kw:V->List (Nat × Option aI)->Option β):Option β:=match b with
 | some (.box cs)=>if v.cells.length = size ∧ off + size <= cs.length ∧ v.known = true then kw .any [(id,some (.box (iU cs off v.cells)))] else none
 | _=>none
def LY (size ver i off id:Nat) (v:V) (bl:List (Nat × Option aI)) (b:Option aI) (kw:V->List (Nat × Option aI)->Option β):Option β:=GJ (QU size ver i off id (vX (lk bl none) v) (aK (iX (lk bl none)) v.cells) b) kw
def RY (size:Nat) (p v:V) (bl:List (Nat × Option aI)) (kw:V->List (Nat × Option aI)->Option β):Option β:=match p with
 | .ptr id off=>bG bl id fun b=>aQ size off id v b kw
 | .orow id ver i off=>bG bl id fun b=>LY size ver i off id v bl b kw
 | _=>none
theorem aHH (size:Nat) (x v:bM):rN T d (.store size x v) fr bl k kw = bV fr x fun p=>bV fr v fun w=>RY size p w bl kw:=by
 rw [jB,aHF]
 unfold bV
 generalize bL (lk fr .any) x = p
 generalize bL (lk fr .any) v = w
 cases p with
 | ptr id off =>
  rw [aLb]
  simp only [RY,bG]
  generalize lk bl none id = b
  cases b with
  | none=>rfl
  | some b=>cases b with
   | box cs =>
    simp only [aBC,aQ]
    by_cases h:w.cells.length = size ∧ off + size <= cs.length ∧ w.known = true
    ·rw [if_pos h,if_pos h]; rfl
    ·rw [if_neg h,if_neg h]; rfl
   | _=>rfl
 | orow id ver i off =>
  rw [aIS]
  simp only [RY,bG,LY]
  rw [C8]
  generalize lk bl none id = b
  cases b with
  | none=>rfl
  | some b=>cases b with
   | rows v e sz rows =>
    simp only [QU]
    by_cases h:ver = v
    ·rw [if_pos h]
     cases rows[i]? with
     | none=>rfl
     | some row =>
      cases aK (iX (lk bl none)) w.cells with
      | none=>rfl
      | some ds =>
       simp only
       split <;> rfl
    ·rw [if_neg h]; rfl
   | _=>rfl
 | _=>rfl
theorem aII (size id off:Nat) (v:V):RY size (.ptr id off) v bl kw = bG bl id fun b=>aQ size off id v b kw:=rfl
theorem aIg (size id ver i off:Nat) (v:V):RY size (.orow id ver i off) v bl kw = bG bl id fun b=>LY size ver i off id v bl b kw:=rfl
theorem IX (off id:Nat) (w c:V) (cs:List V) (hw:w.one = true) (hk:w.known = true):aQ 1 off id w (some (.box (c :: cs))) kw = BJ (c :: cs) off w fun l=>kw .any [(id,some (.box l))]:=by
 have hc:w.cells = [w]:=by cases w <;> first | rfl | cases hw
 rw [aAL]
 simp only [aQ,hc,hk]
 by_cases h:off + 1 <= (c :: cs).length
 ·rw [if_pos h,if_pos ⟨rfl,h,trivial⟩]
 ·rw [if_neg h,if_neg (fun q=>h q.2.1)]
theorem aF8 (off id:Nat) (x:D) (c:V) (cs:List V):aQ 1 off id (.d x) (some (.box (c :: cs))) kw = BJ (c :: cs) off (.d x) fun l=>kw .any [(id,some (.box l))]:=IX off id _ c cs rfl rfl
theorem aAA (off id:Nat) (c:V) (cs:List V):aQ 1 off id .nil (some (.box (c :: cs))) kw = BJ (c :: cs) off .nil fun l=>kw .any [(id,some (.box l))]:=IX off id _ c cs rfl rfl
theorem aAc (off id i v:Nat) (c:V) (cs:List V):aQ 1 off id (.own i v) (some (.box (c :: cs))) kw = BJ (c :: cs) off (.own i v) fun l=>kw .any [(id,some (.box l))]:=IX off id _ c cs rfl rfl
theorem ZP (off id i v:Nat) (c:V) (cs:List V):aQ 1 off id (.ptr i v) (some (.box (c :: cs))) kw = BJ (c :: cs) off (.ptr i v) fun l=>kw .any [(id,some (.box l))]:=IX off id _ c cs rfl rfl
def A7 (cs:List V) (n:Nat) (x:Option β):Option β:=if cs.length = n then x else none
theorem aO6 (x:Option β):A7 [] 0 x = x:=rfl
theorem aPy (c:V) (cs:List V) (n:Nat) (x:Option β):A7 (c :: cs) (n + 1) x = A7 cs n x:=by
 unfold A7
 simp only [List.length_cons]
 by_cases h:cs.length = n
 ·rw [if_pos h,if_pos (by omega)]
 ·rw [if_neg h,if_neg (by omega)]
theorem aAx (size off id:Nat) (ws:List V) (c:V) (cs:List V):aQ size off id (.agg ws) (some (.box (c :: cs))) kw = A7 ws size (kU (c :: cs) off ws fun l=>kw .any [(id,some (.box l))]):=by
 unfold A7 kU
 show (if ws.length = size ∧ off + size <= (c :: cs).length ∧ V.known (.agg ws) = true then kw .any [(id,some (.box (iU (c :: cs) off ws)))] else none) = _
 by_cases h:ws.length = size
 ·subst h
  rw [if_pos rfl]
  by_cases h:off + ws.length <= (c :: cs).length
  ·rw [if_pos h,if_pos ⟨rfl,h,rfl⟩]
  ·rw [if_neg h,if_neg (fun q=>h q.2.1)]
 ·rw [if_neg h,if_neg (fun q=>h q.1)]
theorem U7 {α:Type}:∀ (l m:List α),l.length = m.length->iU l 0 m = m
 | [],[],_=>rfl
 | _ :: l,x :: m,h=>by
  simp only [iU]
  rw [U7 l m (by simpa using h)]
 | [],_ :: _,h=>by simp at h
 | _ :: _,[],h=>by simp at h
theorem oK (n id:Nat) (ds:List D) (hd:ds.length = n) (cs:List V) (hc:cs.length = n):aQ n 0 id (kY ds) (some (.box cs)) kw = kw .any [(id,some (.box (aR ds)))]:=by
 have e:(aR ds).length = n:=by rw [← hd]; simp [aR]
 show (if (aR ds).length = n ∧ 0 + n <= cs.length ∧ V.known (kY ds) = true then kw .any [(id,some (.box (iU cs 0 (aR ds))))] else none) = _
 rw [if_pos ⟨e,by omega,rfl⟩,U7 _ _ (by rw [hc,e])]
def aLP (v:V) (bl:List (Nat × Option aI)) (k:V->Option β):Option β:=match v with
 | .ptr id off=>k (.ptr id off)
 | .d (.ptr row off)=>k (.d (.ptr row off))
 | .orow id ver i off=>bG bl id fun b=>match b with
  | some (.rows v _ _ _)=>if ver = v then k (.orow id ver i off) else none
  | _=>none
 | _=>none
theorem VZ (x:bM):rN T d (.nilCheck x) fr bl k kw = bV fr x fun v=>aLP v bl k:=by
 unfold rN bV
 simp only [cJ]
 generalize bL (lk fr .any) x = v
 cases v with
 | d x=>cases x <;> rfl
 | orow id ver i off =>
  simp only [aLP,bG]
  generalize lk bl none id = b
  cases b with
  | none=>rfl
  | some b=>cases b with
   | rows v e s rows=>simp only; by_cases h:ver = v <;> simp [h]
   | _=>rfl
 | _=>rfl
theorem aRg (id off:Nat):aLP (.ptr id off) bl k = k (.ptr id off):=rfl
theorem aR2 (row:List D) (off:Nat):aLP (.d (.ptr row off)) bl k = k (.d (.ptr row off)):=rfl
def aAy (id ver i off:Nat) (b:Option aI) (k:V->Option β):Option β:=match b with
 | some (.rows v _ _ _)=>if ver = v then k (.orow id ver i off) else none
 | _=>none
theorem aQI (id ver i off:Nat):aLP (.orow id ver i off) bl k = bG bl id fun b=>aAy id ver i off b k:=rfl
theorem aOm (id ver i off e s:Nat) (rows:List (List D)):aAy id ver i off (some (.rows ver e s rows)) k = k (.orow id ver i off):=if_pos rfl
def faK (off:Nat) (v:V) (bl:List (Nat × Option aI)) (k:V->Option β):Option β:=match v with
 | .ptr id o=>k (.ptr id (o + off))
 | .d (.ptr row o)=>k (.d (.ptr row (o + off)))
 | .orow id ver i o=>bG bl id fun b=>aAy id ver i (o + off) b k
 | _=>none
theorem S8 (off:Nat) (x:bM):rN T d (.fieldAddr off x) fr bl k kw = bV fr x fun v=>faK off v bl k:=by
 unfold rN bV
 simp only [cJ]
 generalize bL (lk fr .any) x = v
 cases v with
 | d x=>cases x <;> rfl
 | orow id ver i o =>
  simp only [faK,bG]
  generalize lk bl none id = b
  cases b with
  | none=>rfl
  | some b=>cases b with
   | rows v e s rows=>simp only [aAy]; by_cases h:ver = v <;> simp [h]
   | _=>rfl
 | _=>rfl
theorem aSC (off id o:Nat):faK off (.ptr id o) bl k = k (.ptr id (o + off)):=rfl
theorem aTI (off:Nat) (row:List D) (o:Nat):faK off (.d (.ptr row o)) bl k = k (.d (.ptr row (o + off))):=rfl
theorem aTM (off id ver i o:Nat):faK off (.orow id ver i o) bl k = bG bl id fun b=>aAy id ver i (o + off) b k:=rfl
def qY (c:Nat) (op:BinOp) (a b:V) (k:V->Option β):Option β:=(BI c op a b).bind fun x=>k (.d x)
theorem aOU (c:Nat) (op:BinOp) (x y:bM):rN T d (.bin c op x y) fr bl k kw = bV fr x fun a=>bV fr y fun b=>qY c op a b k:=by
 rw [jB]
 exact RS _
section
variable (kd:IntKind) (x y:Int)
theorem aLm:qY 0 .add (.d (.int kd x)) (.d (.int kd y)) k = k (.d (.int kd (IntKind.wrap kd (x + y)))):=by simp [qY,BI,qI]
theorem aJD:qY 0 .sub (.d (.int kd x)) (.d (.int kd y)) k = k (.d (.int kd (IntKind.wrap kd (x - y)))):=by simp [qY,BI,qI]
theorem aLz:qY 0 .mul (.d (.int kd x)) (.d (.int kd y)) k = k (.d (.int kd (IntKind.wrap kd (x * y)))):=by simp [qY,BI,qI]
theorem aLk:qY 0 .quo (.d (.int kd x)) (.d (.int kd y)) k = if y = 0 then none else k (.d (.int kd (IntKind.wrap kd (x.tdiv y)))):=by
 simp only [qY,BI,qI,if_true]; split <;> rfl
theorem aLU:qY 0 .rem (.d (.int kd x)) (.d (.int kd y)) k = if y = 0 then none else k (.d (.int kd (x.tmod y))):=by
 simp only [qY,BI,qI,if_true]; split <;> rfl
theorem aJC:qY 0 .eql (.d (.int kd x)) (.d (.int kd y)) k = k (.d (.bool (x == y))):=by simp [qY,BI,qI]
theorem aL5:qY 0 .neq (.d (.int kd x)) (.d (.int kd y)) k = k (.d (.bool (x != y))):=by simp [qY,BI,qI]
theorem aKU:qY 0 .lss (.d (.int kd x)) (.d (.int kd y)) k = k (.d (.bool (decide (x < y)))):=by simp [qY,BI,qI]
theorem aKw:qY 0 .leq (.d (.int kd x)) (.d (.int kd y)) k = k (.d (.bool (decide (x <= y)))):=by simp [qY,BI,qI]
theorem aKr:qY 0 .gtr (.d (.int kd x)) (.d (.int kd y)) k = k (.d (.bool (decide (x > y)))):=by simp [qY,BI,qI]
theorem aLJ:qY 0 .geq (.d (.int kd x)) (.d (.int kd y)) k = k (.d (.bool (decide (x ≥ y)))):=by simp [qY,BI,qI]
theorem aKZ:qY 0 .and (.d (.int kd x)) (.d (.int kd y)) k = k (.d (.int kd (IntKind.wrap kd (BitVec.ofInt (IntKind.bits kd) x &&& BitVec.ofInt (IntKind.bits kd) y).toNat))):=by simp [qY,BI,qI]
theorem aQb:qY 0 .or (.d (.int kd x)) (.d (.int kd y)) k = k (.d (.int kd (IntKind.wrap kd (BitVec.ofInt (IntKind.bits kd) x ||| BitVec.ofInt (IntKind.bits kd) y).toNat))):=by simp [qY,BI,qI]
theorem aJG:qY 0 .xor (.d (.int kd x)) (.d (.int kd y)) k = k (.d (.int kd (IntKind.wrap kd (BitVec.ofInt (IntKind.bits kd) x ^^^ BitVec.ofInt (IntKind.bits kd) y).toNat))):=by simp [qY,BI,qI]
end
section
variable (x y:ByteArray)
theorem aHE:qY 0 .eql (.d (.str x)) (.d (.str y)) k = k (.d (.bool (x.toList == y.toList))):=rfl
theorem aEH:qY 0 .neq (.d (.str x)) (.d (.str y)) k = k (.d (.bool !(x.toList == y.toList))):=rfl
theorem aHg:qY 0 .lss (.d (.str x)) (.d (.str y)) k = k (.d (.bool (Op.bytesLess x.toList y.toList))):=rfl
theorem aEX:qY 0 .leq (.d (.str x)) (.d (.str y)) k = k (.d (.bool (Op.bytesLess x.toList y.toList || x.toList == y.toList))):=rfl
theorem aHn:qY 0 .gtr (.d (.str x)) (.d (.str y)) k = k (.d (.bool !(Op.bytesLess x.toList y.toList || x.toList == y.toList))):=rfl
theorem aEQ:qY 0 .geq (.d (.str x)) (.d (.str y)) k = k (.d (.bool !(Op.bytesLess x.toList y.toList))):=rfl
end
theorem aFp (x y:Bool):qY 1 .eql (.d (.bool x)) (.d (.bool y)) k = k (.d (.bool (x == y))):=rfl
theorem aFK (x y:Bool):qY 1 .neq (.d (.bool x)) (.d (.bool y)) k = k (.d (.bool !(x == y))):=rfl
def QX (o:Option D) (k:V->Option β):Option β:=o.bind fun x=>k (.d x)
theorem A1 {o o' : Option D} {k:V->Option β} (h:o = o'):QX o k = QX o' k:=by rw [h]
theorem aGZ (x:D):QX (some x) k = k (.d x):=rfl
theorem aE6:QX none k = none:=rfl
theorem aO7 (ks:List Nat) (neg:Bool) (x y:bM):rN T d (.eqS ks neg x y) fr bl k kw = bV fr x fun a=>bV fr y fun b=>QX (eqV ks neg a b) k:=by
 rw [jB]
 exact RS _
def lO:List Nat->List V->List V->(Bool->Option β)->Option β:=fun ks xs ys k=>match d7 ks xs ys with
 | some b=>k b
 | none=>none
def TH (ks:List Nat) (neg:Bool) (a b:V) (k:V->Option β):Option β:=match a,b with
 | .agg xs,.agg ys=>lO ks xs ys fun b=>k (.d (.bool (if neg then !b else b)))
 | _,_=>none
theorem aP1 (ks:List Nat) (neg:Bool) (x y:bM):rN T d (.eqS ks neg x y) fr bl k kw = bV fr x fun a=>bV fr y fun b=>TH ks neg a b k:=by
 rw [aO7]
 unfold bV
 generalize bL (lk fr .any) x = a
 generalize bL (lk fr .any) y = b
 cases a with
 | agg xs=>cases b with
  | agg ys =>
   simp only [eqV,TH,lO,QX]
   cases d7 ks xs ys <;> rfl
  | _=>rfl
 | _=>cases b <;> rfl
section
variable {k:V->Option β}
theorem aJ8 (ks:List Nat) (xs ys:List V):TH ks true (.agg xs) (.agg ys) k = lO ks xs ys fun b=>k (.d (.bool !b)):=rfl
theorem aLX (ks:List Nat) (xs ys:List V):TH ks false (.agg xs) (.agg ys) k = lO ks xs ys fun b=>k (.d (.bool b)):=rfl
theorem aKE (ks:List Nat) (xs:List D) (ys:List V):TH ks true (kY xs) (.agg ys) k = lO ks (aR xs) ys fun b=>k (.d (.bool !b)):=rfl
theorem aKK (ks:List Nat) (xs:List D) (ys:List V):TH ks false (kY xs) (.agg ys) k = lO ks (aR xs) ys fun b=>k (.d (.bool b)):=rfl
theorem aJp (ks:List Nat) (xs:List V) (ys:List D):TH ks true (.agg xs) (kY ys) k = lO ks xs (aR ys) fun b=>k (.d (.bool !b)):=rfl
theorem aJm (ks:List Nat) (xs:List V) (ys:List D):TH ks false (.agg xs) (kY ys) k = lO ks xs (aR ys) fun b=>k (.d (.bool b)):=rfl
theorem aHZ (ks:List Nat) (xs ys:List D):TH ks true (kY xs) (kY ys) k = lO ks (aR xs) (aR ys) fun b=>k (.d (.bool !b)):=rfl
theorem aJe (ks:List Nat) (xs ys:List D):TH ks false (kY xs) (kY ys) k = lO ks (aR xs) (aR ys) fun b=>k (.d (.bool b)):=rfl
end
section
variable {k:Bool->Option β}
theorem aOu (kd:IntKind) (x y:Int):lO [0] [.d (.int kd x)] [.d (.int kd y)] k = k (x == y):=by simp [lO,d7,w7]
theorem aOM (x y:Bool):lO [1] [.d (.bool x)] [.d (.bool y)] k = k (x == y):=by simp [lO,d7,w7]
theorem aM0 (x y:ByteArray):lO [2] [.d (.str x)] [.d (.str y)] k = k (x == y):=by simp [lO,d7,w7]
theorem aRK (kd:IntKind) (x y:Int) (c:Nat) (ks:List Nat) (xs ys:List V):lO (0 :: c :: ks) (.d (.int kd x) :: xs) (.d (.int kd y) :: ys) k = lO (c :: ks) xs ys fun b=>k ((x == y) && b):=by
 simp only [lO,d7,w7,if_true]
 cases d7 (c :: ks) xs ys <;> rfl
theorem aQH (x y:Bool) (c:Nat) (ks:List Nat) (xs ys:List V):lO (1 :: c :: ks) (.d (.bool x) :: xs) (.d (.bool y) :: ys) k = lO (c :: ks) xs ys fun b=>k ((x == y) && b):=by
 simp only [lO,d7,w7]
 cases d7 (c :: ks) xs ys <;> rfl
theorem aSl (x y:ByteArray) (c:Nat) (ks:List Nat) (xs ys:List V):lO (2 :: c :: ks) (.d (.str x) :: xs) (.d (.str y) :: ys) k = lO (c :: ks) xs ys fun b=>k ((x == y) && b):=by
 simp only [lO,d7,w7]
 cases d7 (c :: ks) xs ys <;> rfl
end
def aLp (kd:IntKind) (x:Int):List V->(V->Option β)->Option β:=fun l k=>QX (aDh kd x l) k
def aJa (kd:IntKind) (x:Int):List V->(V->Option β)->Option β:=fun l k=>QX (aDy kd x l) k
def aQD (l:List V) (k:V->Option β):Option β:=QX (aPx l) k
def aQC (l:List V) (k:V->Option β):Option β:=QX (aPd l) k
theorem aND (l:List bM):rN T d (.max l) fr bl k kw = GE fr l fun vs=>aQD vs k:=by
 rw [jB,MU]
 exact RS _
theorem aMN (l:List bM):rN T d (.min l) fr bl k kw = GE fr l fun vs=>aQC vs k:=by
 rw [jB,MU]
 exact RS _
section
variable {k:V->Option β}
theorem aOD (kd:IntKind) (x:Int) (l:List V):aQD (.d (.int kd x) :: l) k = aLp kd x l k:=rfl
theorem aNM (kd:IntKind) (x:Int) (l:List V):aQC (.d (.int kd x) :: l) k = aJa kd x l k:=rfl
theorem aJ6 (kd:IntKind) (x:Int):aLp kd x [] k = k (.d (.int kd x)):=rfl
theorem aK1 (kd:IntKind) (x:Int):aJa kd x [] k = k (.d (.int kd x)):=rfl
theorem aHL (kd:IntKind) (x y:Int) (l:List V):aLp kd x (.d (.int kd y) :: l) k = aLp kd (if y > x then y else x) l k:=by simp [aLp,aDh]
theorem aE4 (kd:IntKind) (x y:Int) (l:List V):aJa kd x (.d (.int kd y) :: l) k = aJa kd (if y < x then y else x) l k:=by simp [aJa,aDy]
end
def unK (op:UnOp) (v:V) (k:V->Option β):Option β:=QX (unV op v) k
theorem aSn (op:UnOp) (x:bM):rN T d (.un op x) fr bl k kw = bV fr x fun a=>unK op a k:=by
 rw [jB]
 exact RS _
theorem aPv (b:Bool):unK .not (.d (.bool b)) k = k (.d (.bool !b)):=rfl
theorem aMO (kd:IntKind) (n:Int):unK .neg (.d (.int kd n)) k = k (.d (.int kd (IntKind.wrap kd (0 - n)))):=rfl
def aQm (kd:IntKind) (v:V) (k:V->Option β):Option β:=match v with
 | .d (.int _ n)=>k (.d (.int kd (IntKind.wrap kd n)))
 | _=>none
theorem aKJ (kd:IntKind) (x:bM):rN T d (.conv kd x) fr bl k kw = bV fr x fun a=>aQm kd a k:=by
 unfold rN bV
 simp only [cJ]
 generalize bL (lk fr .any) x = v
 cases v with
 | d x=>cases x <;> rfl
 | _=>rfl
theorem aOA (kd kd' : IntKind) (n:Int):aQm kd (.d (.int kd' n)) k = k (.d (.int kd (IntKind.wrap kd n))):=rfl
def WX (s:ByteArray):List Int:=s.data.toList.map fun b=>(b.toNat:Int)
def aCE (v:V) (k:V->Option β):Option β:=match v with
 | .d (.str s)=>k (.d (.sl (cM (cK .u8) (WX s))))
 | _=>none
theorem aHS (x:bM):rN T d (.bytes x) fr bl k kw = bV fr x fun a=>aCE a k:=by
 unfold rN bV
 simp only [cJ]
 generalize bL (lk fr .any) x = v
 cases v with
 | d x=>cases x with
  | str s =>
   have:(s.data.toList.map fun b=>[D.int .u8 (b.toNat:Int)]) = cM (cK .u8) (WX s):=by
    simp only [cM,WX,List.map_map]
    rfl
   simp only [aCE,this]
  | _=>rfl
 | _=>rfl
theorem aIv (s:ByteArray):aCE (.d (.str s)) k = k (.d (.sl (cM (cK .u8) (WX s)))):=rfl
def J7 (v:V) (bl:List (Nat × Option aI)) (k:List (List D)->Option β):Option β:=(gG (lk bl none) v).bind k
def H0 (ver:Nat) (b:Option aI) (k:List (List D)->Option β):Option β:=(aKY ver b).bind k
theorem aLi (rows:List (List D)) (k:List (List D)->Option β):J7 (.d (.sl rows)) bl k = k rows:=rfl
theorem aGO (k:List (List D)->Option β):J7 .nil bl k = k []:=rfl
theorem UU (id ver:Nat) (k:List (List D)->Option β):J7 (.own id ver) bl k = bG bl id fun b=>H0 ver b k:=by
 unfold J7 bG H0
 simp only [gG]
 generalize lk bl none id = b
 cases b with
 | none=>rfl
 | some b=>cases b <;> rfl
theorem OR (v e s:Nat) (rows:List (List D)) (k:List (List D)->Option β):H0 v (some (.rows v e s rows)) k = k rows:=by simp [H0,aKY]
theorem OV (v:Nat) (rows:List (List D)) (k:List (List D)->Option β):H0 v (some (.froz v rows)) k = k rows:=by simp [H0,aKY]
theorem aPK (x:bM):rN T d (.len x) fr bl k kw = bV fr x fun a=>J7 a bl fun rows=>k (.d (.int .i64 rows.length)):=by
 unfold rN bV J7
 simp only [cJ]
 cases gG (lk bl none) (bL (lk fr .any) x) <;> rfl
def aQt (v:V) (k:V->Option β):Option β:=match v with
 | .d (.str s)=>k (.d (.int .i64 s.size))
 | _=>none
theorem aIN (x:bM):rN T d (.lenS x) fr bl k kw = bV fr x fun a=>aQt a k:=by
 unfold rN bV
 simp only [cJ]
 generalize bL (lk fr .any) x = v
 cases v with
 | d x=>cases x <;> rfl
 | _=>rfl
theorem aOq (s:ByteArray):aQt (.d (.str s)) k = k (.d (.int .i64 s.size)):=rfl
def LD (off size:Nat) (isAgg:Bool) (v:V) (k:V->Option β):Option β:=match v with
 | .agg cs=>if isAgg = true then vM cs off size fun l=>k (.agg l) else CB cs off k
 | _=>none
theorem aFj (off size:Nat) (isAgg:Bool) (x:bM):rN T d (.field off size isAgg x) fr bl k kw = bV fr x fun v=>LD off size isAgg v k:=by
 unfold rN bV
 simp only [cJ]
 generalize bL (lk fr .any) x = v
 cases v with
 | agg cs =>
  cases isAgg with
  | true =>
   simp only [LD,vM,if_true]
   by_cases h:off + size <= cs.length
   ·rw [if_pos h,if_pos h]
   ·rw [if_neg h,if_neg h]
  | false=>simp only [LD,MV,Bool.false_eq_true,if_false]; cases cs[off]? <;> rfl
 | _=>rfl
theorem aMe (off size:Nat) (cs:List V):LD off size false (.agg cs) k = CB cs off k:=rfl
theorem aKk (off size:Nat) (cs:List V):LD off size true (.agg cs) k = vM cs off size fun l=>k (.agg l):=rfl
theorem aG8 (off size:Nat) (ds:List D):LD off size false (kY ds) k = fS ds off fun x=>k (.d x):=by
 show CB (aR ds) off k = _
 rw [aDL]
theorem aFw (off size:Nat) (ds:List D):LD off size true (kY ds) k = yZ ds off size fun l=>k (kY l):=by
 show vM (aR ds) off size (fun l=>k (.agg l)) = _
 rw [VT]; rfl
def sW (ds:List D) (n:Nat) (x:Option β):Option β:=if ds.length = n then x else none
def aLy (size:Nat) (x i:V) (bl:List (Nat × Option aI)) (k:V->Option β):Option β:=EE (VL size x i (lk bl none)) k fun _ _=>none
theorem aGI {size:Nat} {x i:V} {b:Nat->Option aI} {kw' : V->List (Nat × Option aI)->Option β}:EE (VL size x i b) k kw = EE (VL size x i b) k kw':=by
 have:∀ r,VL size x i b = some r->r.2 = []:=by
  intro r
  unfold VL
  intro e
  repeat' split at e
  all_goals first | cases e; rfl | cases e
 cases h:VL size x i b with
 | none=>rfl
 | some r=>obtain ⟨v,wr⟩:=r; have:=this _ h; dsimp only at this; subst this; rfl
theorem S6 (size:Nat) (x i:bM):rN T d (.indexAddr size x i) fr bl k kw = bV fr x fun a=>bV fr i fun b=>aLy size a b bl k:=by
 rw [jB,TG]
 unfold bV aLy
 exact aGI
theorem aP9 {α:Type} (size:Nat) (c:α->List D) (xs:List α) (kd:IntKind) (n:Int):aLy size (.d (.sl (cM c xs))) (.d (.int kd n)) bl k = (at? xs n).bind fun x=>sW (c x) size (k (.d (.ptr (c x) 0))):=by
 unfold aLy
 rw [C8,aNa]
 rfl
def Z0 (size id ver:Nat) (n:Int) (b:Option aI) (k:V->Option β):Option β:=EE (aJ1 size id ver n b) k fun _ _=>none
theorem aJb (size id ver:Nat) (kd:IntKind) (n:Int):aLy size (.own id ver) (.d (.int kd n)) bl k = bG bl id fun b=>Z0 size id ver n b k:=rfl
theorem aDl {α:Type} (size id v e:Nat) (n:Int) (c:α->List D) (xs:List α):Z0 size id v n (some (.rows v e size (cM c xs))) k = if 0 <= n ∧ n.toNat < xs.length then k (.orow id v n.toNat 0) else none:=by
 unfold Z0
 rw [C8,aHM,if_pos rfl,if_pos rfl,vS]
theorem aBx {α:Type} (size id v:Nat) (n:Int) (c:α->List D) (xs:List α):Z0 size id v n (some (.froz v (cM c xs))) k = (at? xs n).bind fun x=>sW (c x) size (k (.d (.ptr (c x) 0))):=by
 unfold Z0
 rw [C8,aHm,if_pos rfl]
 rfl
def aEk (x i:V) (k:V->Option β):Option β:=GJ (IG x i) fun v _=>k v
theorem aFI (x i:bM):rN T d (.index x i) fr bl k kw = bV fr x fun a=>bV fr i fun b=>aEk a b k:=by
 rw [jB,aGQ]
 unfold bV aEk
 generalize bL (lk fr .any) x = a
 generalize bL (lk fr .any) i = b
 have:∀ r,IG a b = some r->r.2 = []:=by
  intro r
  unfold IG
  intro e
  repeat' split at e
  all_goals first | cases e; rfl | cases e
 show _ = GJ (IG a b) fun v _=>k v
 cases h:IG a b with
 | none=>rfl
 | some r=>obtain ⟨v,wr⟩:=r; have:=this _ h; dsimp only at this; subst this; rfl
theorem aP7 (s:ByteArray) (kd:IntKind) (n:Int):aEk (.d (.str s)) (.d (.int kd n)) k = (sAt s n).bind fun b=>k (.d (.int .u8 b)):=by
 unfold aEk
 rw [aMh]
def aCT (fr:List (Nat × V)) (o:Option bM) (k:Option V->Option β):Option β:=match o with
 | none=>k none
 | some x=>bV fr x fun v=>k (some v)
theorem aQP (k:Option V->Option β):aCT fr none k = k none:=rfl
theorem aRY (x:bM) (k:Option V->Option β):aCT fr (some x) k = bV fr x fun v=>k (some v):=rfl
def FR (size:Nat) (x:V) (lo hi:Option V) (bl:List (Nat × Option aI)) (k:V->Option β) (kw:V->List (Nat × Option aI)->Option β):Option β:=EE (xB (lk bl none) size x lo hi) k kw
theorem aFf (size:Nat) (x:bM) (lo hi:Option bM):rN T d (.slice size x lo hi) fr bl k kw = bV fr x fun a=>aCT fr lo fun l=>aCT fr hi fun h=>FR size a l h bl k kw:=by
 rw [jB,aFO]
 cases lo <;> cases hi <;> rfl
section
variable {α:Type} (size:Nat) (c:α->List D) (xs:List α) (hs:sized size (cM c xs) = true)
include hs
theorem JA {lo hi:Option V} {l h:Int} (hl:C2 lo 0 = some l) (hh:C2 hi (xs.length:Int) = some h):FR size (.d (.sl (cM c xs))) lo hi bl k kw = if jJ xs.length l h then k (.d (.sl (cM c (iR xs l h)))) else none:=by
 unfold FR
 rw [C8,aFk _ size c xs lo hi l h hl hh hs]
theorem aFl:FR size (.d (.sl (cM c xs))) none none bl k kw = if jJ xs.length 0 (xs.length:Int) then k (.d (.sl (cM c (iR xs 0 (xs.length:Int))))) else none:=JA size c xs hs rfl rfl
theorem aHy (kd:IntKind) (l:Int):FR size (.d (.sl (cM c xs))) (some (.d (.int kd l))) none bl k kw = if jJ xs.length l (xs.length:Int) then k (.d (.sl (cM c (iR xs l (xs.length:Int))))) else none:=JA size c xs hs rfl rfl
theorem aGj (kd:IntKind) (h:Int):FR size (.d (.sl (cM c xs))) none (some (.d (.int kd h))) bl k kw = if jJ xs.length 0 h then k (.d (.sl (cM c (iR xs 0 h)))) else none:=JA size c xs hs rfl rfl
theorem aEU (kd kd' : IntKind) (l h:Int):FR size (.d (.sl (cM c xs))) (some (.d (.int kd l))) (some (.d (.int kd' h))) bl k kw = if jJ xs.length l h then k (.d (.sl (cM c (iR xs l h)))) else none:=JA size c xs hs rfl rfl
end
def S4 (e size bytes d:Nat) (x y:V) (bl:List (Nat × Option aI)) (kw:V->List (Nat × Option aI)->Option β):Option β:=J7 y bl fun new =>
 if sized size new = true then
   match x with
   | .nil=>bG bl d fun b=>gC b (if new.length * bytes <= 140737488355328 then kw (.own d 0) [(d,some (.rows 0 e size new))] else none)
   | .own id ver=>bG bl id fun b=>match b with
    | some (.rows v e' size' rows)=>if ver = v ∧ e' = e ∧ size' = size ∧ (rows.length + new.length) * bytes <= 140737488355328 then kw (.own id (ver + 1)) [(id,some (.rows (ver + 1) e size (rows ++ new)))] else none
    | _=>none
   | _=>none
   else none
theorem aB2 (e size bytes:Nat) (x y:bM):rN T d (.append e size bytes x y) fr bl k kw = bV fr x fun a=>bV fr y fun b=>S4 e size bytes d a b bl kw:=by
 unfold rN bV S4 J7 bG gC
 simp only [cJ]
 generalize bL (lk fr .any) x = v
 cases gG (lk bl none) (bL (lk fr .any) y) with
 | none=>rfl
 | some new =>
  simp only [Option.bind_some]
  by_cases hs:sized size new = true
  ·rw [if_pos hs,if_pos hs]
   cases v with
   | nil =>
    simp only
    cases lk bl none d with
    | none =>
     simp only
     by_cases h:new.length * bytes <= 140737488355328
     ·rw [if_pos h,if_pos h]
     ·rw [if_neg h,if_neg h]
    | some b=>rfl
   | own id ver =>
    simp only
    generalize lk bl none id = b
    cases b with
    | none=>rfl
    | some b=>cases b with
     | rows v e' size' rows =>
      simp only
      by_cases h:ver = v ∧ e' = e ∧ size' = size ∧ (rows.length + new.length) * bytes <= 140737488355328
      ·rw [if_pos h,if_pos h]
      ·rw [if_neg h,if_neg h]
     | _=>rfl
   | _=>rfl
  ·rw [if_neg hs,if_neg hs]
def QF {α:Type} (e size bytes d:Nat) (x:V) (c:α->List D) (ys:List α) (bl:List (Nat × Option aI)) (kw:V->List (Nat × Option aI)->Option β):Option β:=match x with
   | .nil=>bG bl d fun b=>gC b (if ys.length * bytes <= 140737488355328 then kw (.own d 0) [(d,some (.rows 0 e size (cM c ys)))] else none)
   | .own id ver=>bG bl id fun b=>match b with
    | some (.rows v e' size' rows)=>if ver = v ∧ e' = e ∧ size' = size ∧ (rows.length + ys.length) * bytes <= 140737488355328 then kw (.own id (ver + 1)) [(id,some (.rows (ver + 1) e size (rows ++ cM c ys)))] else none
    | _=>none
   | _=>none
theorem aHr {α:Type} (e size bytes d:Nat) (x y:V) (c:α->List D) (ys:List α) (hy:∀ k' : List (List D)->Option β,J7 y bl k' = k' (cM c ys)) (hs:sized size (cM c ys) = true):S4 e size bytes d x y bl kw = QF e size bytes d x c ys bl kw:=by
 unfold S4 QF
 rw [hy,if_pos hs,vS]
theorem V4 {α:Type} (e size bytes d:Nat) (x:V) (c:α->List D) (ys:List α) (hs:sized size (cM c ys) = true):S4 e size bytes d x (.d (.sl (cM c ys))) bl kw = QF e size bytes d x c ys bl kw:=aHr e size bytes d x _ c ys (fun _=>rfl) hs
def YC (e size bytes d:Nat) (x:V) (ver:Nat) (b:Option aI) (bl:List (Nat × Option aI)) (kw:V->List (Nat × Option aI)->Option β):Option β:=H0 ver b fun new=>S4 e size bytes d x (.d (.sl new)) bl kw
theorem aKy (e size bytes d id ver:Nat) (x:V):S4 e size bytes d x (.own id ver) bl kw = bG bl id fun b=>YC e size bytes d x ver b bl kw:=by
 show S4 e size bytes d x (.own id ver) bl kw = H0 ver (lk bl none id) fun new=>S4 e size bytes d x (.d (.sl new)) bl kw
 unfold S4
 rw [UU]
 rfl
theorem aA0 {α:Type} (e size bytes d v e' s' : Nat) (x:V) (c:α->List D) (ys:List α) (hs:sized size (cM c ys) = true):YC e size bytes d x v (some (.rows v e' s' (cM c ys))) bl kw = QF e size bytes d x c ys bl kw:=by
 unfold YC
 rw [OR,V4 _ _ _ _ _ _ _ hs]
theorem aBd {α:Type} (e size bytes d v:Nat) (x:V) (c:α->List D) (ys:List α) (hs:sized size (cM c ys) = true):YC e size bytes d x v (some (.froz v (cM c ys))) bl kw = QF e size bytes d x c ys bl kw:=by
 unfold YC
 rw [OV,V4 _ _ _ _ _ _ _ hs]
theorem aER {α:Type} (e size bytes d:Nat) (c:α->List D) (ys:List α):QF e size bytes d .nil c ys bl kw = bG bl d fun b=>gC b (if ys.length * bytes <= 140737488355328 then kw (.own d 0) [(d,some (.rows 0 e size (cM c ys)))] else none):=rfl
def aJ9 {α:Type} (e size bytes id ver:Nat) (c:α->List D) (ys:List α) (b:Option aI) (kw:V->List (Nat × Option aI)->Option β):Option β:=match b with
    | some (.rows v e' size' rows)=>if ver = v ∧ e' = e ∧ size' = size ∧ (rows.length + ys.length) * bytes <= 140737488355328 then kw (.own id (ver + 1)) [(id,some (.rows (ver + 1) e size (rows ++ cM c ys)))] else none
    | _=>none
theorem aGT {α:Type} (e size bytes d id ver:Nat) (c:α->List D) (ys:List α):QF e size bytes d (.own id ver) c ys bl kw = bG bl id fun b=>aJ9 e size bytes id ver c ys b kw:=rfl
theorem aBB {α:Type} (e size bytes id v:Nat) (c:α->List D) (xs ys:List α):aJ9 e size bytes id v c ys (some (.rows v e size (cM c xs))) kw = if (xs.length + ys.length) * bytes <= 140737488355328 then kw (.own id (v + 1)) [(id,some (.rows (v + 1) e size (cM c (xs ++ ys))))] else none:=by
 simp only [aJ9,true_and,vS,aFc]
def P9 (e:Nat) (rows:List (List D)) (k:List (List D)->Option β):Option β:=k rows
def MK (v:V) (bl:List (Nat × Option aI)) (k:List D->List (Nat × Option aI)->Option β):Option β:=match aK (iX (lk bl none)) v.cells with
 | some row=>k row (vX (lk bl none) v)
 | none=>none
end
section
end
end
end Vm
end Go.Proofs.Ytgjcnbgfaimepaa
