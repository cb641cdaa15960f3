/- The small machine's code, read from the front: what is left to do stands in a continuation. Equations by which the small machine's code is read (they are named in the proofs that a program prints). The small machine, read from the front by rewriting at the head only: every value is looked up before it is used. -/
import Derived.Test.YtjjcaapdaldedaaVmD
set_option linter.unusedVariables false
set_option linter.unusedSimpArgs false
namespace Go.Proofs.Ytjjcaapdaldedaa
namespace Vm
open Go.RowKit
section
variable {β:Type}
noncomputable def bP (T:zS) (c:aF) (s:St) (k:Ex->St->Option β):Option β:=(ev T c s).bind fun p=>k p.1 p.2
noncomputable def wP (T:zS) (l:List aM) (s:St) (k:St->Option β):Option β:=(lG (call T) l s).bind k
noncomputable def aJO (T:zS) (l:List aM) (ps:List (Nat × Nat)) (s:St) (k:St->Option β):Option β:=(eH (call T) l (some ps) s).bind k
def K1 (r:I9) (k:V->List (Nat × Option aH)->Option β):Option β:=match r with
 | some (v,wr)=>k v wr
 | none=>none
def WB (v:V) (x y:Option β):Option β:=match v with
 | .d (.bool b)=>if b = true then x else y
 | _=>none
def aIm (k1:St->Option β) (k:Ex->St->Option β):Ex->St->Option β
 | .normal,s=>k1 s
 | e,s=>k e s
def Q0 (id:Nat) (k:Ex->St->Option β):Ex->St->Option β
 | .exit id',s=>if id' = id then k .normal s else k (.exit id') s
 | e,s=>k e s
def VP (m:xN) (k:Ex->St->Option β):Ex->St->Option β
 | .normal,s=>k .normal (m.app s)
 | e,s=>k e s
theorem yV {v v' : V} {x y:Option β} (h:v = v'):WB v x y = WB v' x y:=by rw [h]
theorem aCh (v:V) (wr:List (Nat × Option aH)) (k:V->List (Nat × Option aH)->Option β):K1 (some (v,wr)) k = k v wr:=rfl
theorem YN (b:Bool) (x y:Option β):WB (.d (.bool b)) x y = if b = true then x else y:=rfl
variable {T:zS} {k:Ex->St->Option β}
theorem aEw (s:St):bP T .skip s k = k .normal s:=by unfold bP; rw [aH2]; rfl
theorem aGK (id:Nat) (s:St):bP T (.exit id) s k = k (.exit id) s:=by unfold bP; rw [aJs]; rfl
theorem aJz (s:St):bP T .ret s k = k .ret s:=by unfold bP; rw [aKz]; rfl
theorem ZK (l:List aM) (s:St):bP T (.region l none) s k = wP T l s (k .normal):=by
 unfold bP wP
 rw [SY]
 simp only [eH]
 cases lG (call T) l s <;> rfl
theorem aFR (l:List aM) (ps:List (Nat × Nat)) (s:St):bP T (.region l (some ps)) s k = aJO T l ps s (k .normal):=by
 unfold bP aJO
 rw [SY]
 cases eH (call T) l (some ps) s <;> rfl
theorem aHY (a b:aF) (s:St):bP T (.seq a b) s k = bP T a s (aIm (fun s'=>bP T b s' k) k):=by
 unfold bP
 rw [aK1]
 cases ev T a s with
 | none=>rfl
 | some r =>
  obtain ⟨e,s'⟩:=r
  cases e <;> rfl
theorem aGD (c:bS) (a b:aF) (s:St):bP T (.cond c a b) s k = WB (bH s.get c) (bP T a s k) (bP T b s k):=by
 unfold bP
 rw [aJo]
 generalize bH s.get c = v
 cases v with
 | d x=>cases x with
  | bool b=>cases b <;> rfl
  | _=>rfl
 | _=>rfl
theorem aDn (id:Nat) (a:aF) (s:St):bP T (.block id a) s k = bP T a s (Q0 id k):=by
 unfold bP
 rw [aFl]
 cases ev T a s with
 | none=>rfl
 | some r =>
  obtain ⟨e,s'⟩:=r
  cases e with
  | normal=>rfl
  | exit i =>
   simp only [Option.bind_some,Q0]
   by_cases h:i = id
   ·simp [h]
   ·simp [h]
  | ret=>rfl
theorem aH3 (m:xN) (a:aF) (s:St):bP T (.pre m a) s k = bP T a (m.app s) k:=rfl
theorem aD1 (m:xN) (a:aF) (s:St):bP T (.post a m) s k = bP T a s (VP m k):=by
 unfold bP
 rw [aJ1]
 cases ev T a s with
 | none=>rfl
 | some r =>
  obtain ⟨e,s'⟩:=r
  cases e <;> rfl
theorem aZ {S X:Type} {step:S->Option (S ⊕ X)} {c:aF} (enc:S->St) (out:X->Ex × St) (hout:∀ x s,out x ≠ (.normal,s))
  (h:∀ s,bP T c (enc s) (fun e s'=>some (e,s')) = cU enc out (step s)) (s:S) :
  bP T (.loop c) (enc s) k = (eO step s).bind fun x=>k (out x).1 (out x).2:=by
 unfold bP
 rw [aD5 enc out hout (fun s=>by
  have:=h s
  unfold bP at this
  rw [← this]
  cases ev T c (enc s) <;> rfl) s]
 cases eO step s <;> rfl
theorem aKZ (k1:St->Option β) (k:Ex->St->Option β) (s:St):aIm k1 k .normal s = k1 s:=rfl
theorem aLm (k1:St->Option β) (k:Ex->St->Option β) (i:Nat) (s:St):aIm k1 k (.exit i) s = k (.exit i) s:=rfl
theorem aKV (k1:St->Option β) (k:Ex->St->Option β) (s:St):aIm k1 k .ret s = k .ret s:=rfl
theorem aGY (id:Nat) (k:Ex->St->Option β) (s:St):Q0 id k .normal s = k .normal s:=rfl
theorem aGs (id:Nat) (k:Ex->St->Option β) (i:Nat) (s:St):Q0 id k (.exit i) s = if i = id then k .normal s else k (.exit i) s:=rfl
theorem aEI (id:Nat) (k:Ex->St->Option β) (s:St):Q0 id k .ret s = k .ret s:=rfl
theorem aHq (m:xN) (k:Ex->St->Option β) (s:St):VP m k .normal s = k .normal (m.app s):=rfl
theorem aIZ (m:xN) (k:Ex->St->Option β) (i:Nat) (s:St):VP m k (.exit i) s = k (.exit i) s:=rfl
theorem aJU (m:xN) (k:Ex->St->Option β) (s:St):VP m k .ret s = k .ret s:=rfl
theorem aD0 (s:St) (k:St->Option β):wP T [] s k = k s:=rfl
theorem SE (d:Option Nat) (op:gG) (st:Nat) (l:List aM) (s:St) (k:St->Option β) :
  wP T (⟨d,op,none,st⟩ :: l) s k = K1 (b7 (call T) st (bH s.get) s.blk op) fun v wr=>wP T l (s.put d v wr) k:=by
 unfold wP K1
 simp only [lG,uL,aM.wants]
 cases b7 (call T) st (bH s.get) s.blk op with
 | none=>rfl
 | some r=>rfl
noncomputable def m5 (T:zS):List aM->St->List Fp->(St->List Fp->Option β)->Option β
 | [],s,fp,k=>k s fp
 | o :: l,s,fp,k=>match jW (call T) o s with
  | some (s',p)=>m5 T l s' (p :: fp) k
  | none=>none
theorem aGP (l:List aM) (s:St) (fp:List Fp) (k:St->List Fp->Option β):m5 T l s fp k = (iP (call T) l s).bind fun r=>k r.1 (r.2.reverse ++ fp):=by
 induction l generalizing s fp with
 | nil=>rfl
 | cons o l ih =>
  simp only [m5,iP]
  cases jW (call T) o s with
  | none=>rfl
  | some q =>
   obtain ⟨s',p⟩:=q
   simp only [ih]
   cases iP (call T) l s' with
   | none=>rfl
   | some r=>obtain ⟨s'',ps⟩:=r; simp
def aIc (l:List aM) (ps:List (Nat × Nat)) (k:St->Option β) (s:St) (fp:List Fp):Option β:=if KO l fp.reverse ps = true then k s else none
theorem aHh (l:List aM) (ps:List (Nat × Nat)) (s:St) (k:St->Option β):aJO T l ps s k = m5 T l s [] (aIc l ps k):=by
 rw [aGP]
 unfold aJO
 simp only [eH]
 cases iP (call T) l s with
 | none=>rfl
 | some r =>
  obtain ⟨s',fp⟩:=r
  simp only [Option.bind_some,aIc,List.append_nil,List.reverse_reverse]
  cases h:KO l fp ps <;> simp
theorem QO (d:Option Nat) (op:gG) (st:Nat) (l:List aM) (s:St) (fp:List Fp) (k:St->List Fp->Option β) :
  m5 T (⟨d,op,none,st⟩ :: l) s fp k = K1 (b7 (call T) st (bH s.get) s.blk op) fun v wr=>m5 T l (s.put d v wr) (xS ⟨d,op,none,st⟩ s.get s.blk wr :: fp) k:=by
 unfold K1
 simp only [m5,jW,aM.wants]
 cases b7 (call T) st (bH s.get) s.blk op with
 | none=>rfl
 | some r=>rfl
theorem TU (fr:List (Nat × V)) (bl:List (Nat × Option aH)) (t:Nat):St.get ⟨fr,bl⟩ t = lk fr .any t:=rfl
theorem aEG (fr:List (Nat × V)) (bl:List (Nat × Option aH)) (i:Nat):St.blk ⟨fr,bl⟩ i = lk bl none i:=rfl
theorem aMt (live keep:List Nat) (p:Nat × Nat × Nat × Nat) (l:List (Nat × Nat × Nat × Nat)) (c:List (Nat × Nat × Nat × Nat × Nat)) (ft:List Nat) (fc:List (Nat × Nat)) (s:St):xN.app ⟨live,keep,p :: l,c,ft,fc⟩ s = xN.app ⟨live,keep,l,c,ft,fc⟩ (mkT p s):=rfl
theorem aMj (live keep:List Nat) (p:Nat × Nat × Nat × Nat × Nat) (c:List (Nat × Nat × Nat × Nat × Nat)) (ft:List Nat) (fc:List (Nat × Nat)) (s:St):xN.app ⟨live,keep,[],p :: c,ft,fc⟩ s = xN.app ⟨live,keep,[],c,ft,fc⟩ (mkC p s):=rfl
theorem aLB (live keep:List Nat) (p:Nat × Nat) (fc:List (Nat × Nat)) (s:St):xN.app ⟨live,keep,[],[],[],p :: fc⟩ s = xN.app ⟨live,keep,[],[],[],fc⟩ (frC p s):=rfl
end
end Vm
end Go.Proofs.Ytjjcaapdaldedaa
namespace Go.Proofs.Ytjjcaapdaldedaa
namespace Vm
open Go.RowKit
def at? {α:Type} (xs:List α) (n:Int):Option α:=if 0 <= n then xs[n.toNat]? else none
def cI (n:Int):List D:=[.int .i64 n]
def cB (b:Bool):List D:=[.bool b]
def cS (s:ByteArray):List D:=[.str s]
def cK (k:IntKind) (n:Int):List D:=[.int k n]
def cD (row:List D):List D:=row
def cM {α:Type} (c:α->List D) (xs:List α):List (List D):=xs.map c
def cL {α:Type} (c:α->List D) (xs:List α):List D:=[.sl (cM c xs)]
def lZ {α:Type} (xs:List α) (l h:Int):List α:=(xs.take h.toNat).drop l.toNat
def yF (n:Nat) (l h:Int):Prop:=0 <= l ∧ l <= h ∧ h.toNat <= n
instance (n:Nat) (l h:Int):Decidable (yF n l h):=inferInstanceAs (Decidable (_ ∧ _ ∧ _))
section
variable {β:Type} {T:zS} {site:Nat} {ev:bS->V} {bl:Nat->Option aH} (k:V->List (Nat × Option aH)->Option β)
def UL (size:Nat) (x i:V) (bl:Nat->Option aH):I9:=match i with
  | .d (.int _ n)=>match x with
   | .own id ver=>match bl id with
    | some (.rows v e sz rows)=>if ver = v ∧ sz = size ∧ 0 <= n ∧ n.toNat < rows.length then some (.orow id ver n.toNat 0,[]) else none
    | some (.froz v rows)=>if ver = v ∧ 0 <= n then match rows[n.toNat]? with
     | some row=>if row.length = size then some (.d (.ptr row 0),[]) else none
     | none=>none
     else none
    | _=>none
   | .d (.sl rows)=>if 0 <= n then match rows[n.toNat]? with
    | some row=>if row.length = size then some (.d (.ptr row 0),[]) else none
    | none=>none
    else none
   | _=>none
  | _=>none
theorem RT (C:Nat->List D->Option D) (size:Nat) (x i:bS):b7 C site ev bl (.indexAddr size x i) = UL size (ev x) (ev i) bl:=rfl
theorem aJr {α:Type} (size:Nat) (c:α->List D) (xs:List α) (kd:IntKind) (n:Int) (bl:Nat->Option aH):K1 (UL size (.d (.sl (cM c xs))) (.d (.int kd n)) bl) k = (at? xs n).bind fun x=>if (c x).length = size then k (.d (.ptr (c x) 0)) [] else none:=by
 simp only [UL,at?,cM]
 by_cases h:0 <= n
 ·rw [if_pos h,if_pos h,List.getElem?_map]
  cases xs[n.toNat]? with
  | none=>rfl
  | some x =>
   simp only [Option.map_some,Option.bind_some]
   by_cases h2:(c x).length = size
   ·rw [if_pos h2,if_pos h2]; rfl
   ·rw [if_neg h2,if_neg h2]; rfl
 ·rw [if_neg h,if_neg h]; rfl
def aLl (size id ver:Nat) (n:Int) (b:Option aH):I9:=match b with
 | some (.rows v e sz rows)=>if ver = v ∧ sz = size ∧ 0 <= n ∧ n.toNat < rows.length then some (.orow id ver n.toNat 0,[]) else none
 | some (.froz v rows)=>if ver = v ∧ 0 <= n then match rows[n.toNat]? with
  | some row=>if row.length = size then some (.d (.ptr row 0),[]) else none
  | none=>none
  else none
 | _=>none
theorem aC2 (size id ver v e sz:Nat) (n:Int) (rows:List (List D)) (k:V->List (Nat × Option aH)->Option β):K1 (aLl size id ver n (some (.rows v e sz rows))) k = if ver = v then (if sz = size then (if 0 <= n ∧ n.toNat < rows.length then k (.orow id ver n.toNat 0) [] else none) else none) else none:=by
 simp only [aLl]
 by_cases h1:ver = v
 ·by_cases h2:sz = size
  ·by_cases h3:0 <= n ∧ n.toNat < rows.length
   ·rw [if_pos ⟨h1,h2,h3⟩,if_pos h1,if_pos h2,if_pos h3]; rfl
   ·rw [if_neg (fun q=>h3 q.2.2),if_pos h1,if_pos h2,if_neg h3]; rfl
  ·rw [if_neg (fun q=>h2 q.2.1),if_pos h1,if_neg h2]; rfl
 ·rw [if_neg (fun q=>h1 q.1),if_neg h1]; rfl
def WH (size:Nat) (isAgg:Bool) (off:Nat) (row:List D):I9 :=
 if isAgg then (if off + size <= row.length then some (.agg (((row.drop off).take size).map .d),[]) else none) else row[off]?.map fun v=>(.d v,[])
def aA6 (size:Nat) (isAgg:Bool) (off:Nat) (b:Option aH):I9:=match b with
 | some (.box cs) =>
  if isAgg then (if off + size <= cs.length then some (.agg ((cs.drop off).take size),[]) else none)
  else cs[off]?.map fun v=>(v,[])
 | some (.fbox row)=>WH size isAgg off row
 | _=>none
def aEr (size:Nat) (isAgg:Bool) (ver i off:Nat) (b:Option aH):I9:=match b with
 | some (.rows v e sz rows)=>if ver = v then match rows[i]? with
  | some row=>WH size isAgg off row
  | none=>none
  else none
 | _=>none
def NR (size:Nat) (isAgg:Bool) (x:V) (bl:Nat->Option aH):I9:=match x with
 | .ptr id off=>aA6 size isAgg off (bl id)
 | .d (.ptr row off)=>WH size isAgg off row
 | .orow id ver i off=>aEr size isAgg ver i off (bl id)
 | _=>none
theorem KJ (C:Nat->List D->Option D) (size:Nat) (isAgg:Bool) (x:bS):b7 C site ev bl (.load size isAgg x) = NR size isAgg (ev x) bl:=rfl
theorem aDG (size:Nat) (isAgg:Bool) (id off:Nat) (bl:Nat->Option aH):NR size isAgg (.ptr id off) bl = aA6 size isAgg off (bl id):=rfl
theorem aJV (size:Nat) (isAgg:Bool) (id ver i off:Nat) (bl:Nat->Option aH):NR size isAgg (.orow id ver i off) bl = aEr size isAgg ver i off (bl id):=rfl
theorem aII (size off:Nat) (cs:List V):aA6 size true off (some (.box cs)) = if off + size <= cs.length then some (.agg ((cs.drop off).take size),[]) else none:=rfl
theorem aHN (size off:Nat) (cs:List V):aA6 size false off (some (.box cs)) = cs[off]?.map fun v=>(v,[]):=rfl
def PM (size ver i off id:Nat) (fz:List (Nat × Option aH)) (ds:Option (List D)) (b:Option aH):I9:=match b with
 | some (.rows w e sz rows)=>if ver = w then match rows[i]?,ds with
  | some row,some ds=>if ds.length = size ∧ off + size <= row.length ∧ IW id fz = true then some (.any,(id,some (.rows w e sz (rows.set i (dP row off ds)))) :: fz) else none
  | _,_=>none
  else none
 | _=>none
def aAT (size off id:Nat) (v:V) (b:Option aH):I9:=match b with
 | some (.box cs)=>if v.cells.length = size ∧ off + size <= cs.length ∧ v.known = true then some (.any,[(id,some (.box (dP cs off v.cells)))]) else none
 | _=>none
def Z7 (size:Nat) (x v:V) (bl:Nat->Option aH):I9:=match x with
 | .ptr id off=>aAT size off id v (bl id)
 | .orow id ver i off=>PM size ver i off id (vY bl v) (aJ (j8 bl) v.cells) (bl id)
 | _=>none
theorem aCJ (C:Nat->List D->Option D) (size:Nat) (x v:bS):b7 C site ev bl (.store size x v) = Z7 size (ev x) (ev v) bl:=rfl
theorem aFI (size id off:Nat) (v:V) (bl:Nat->Option aH):Z7 size (.ptr id off) v bl = aAT size off id v (bl id):=rfl
theorem aEf (size id ver i off:Nat) (v:V) (bl:Nat->Option aH):Z7 size (.orow id ver i off) v bl = PM size ver i off id (vY bl v) (aJ (j8 bl) v.cells) (bl id):=rfl
theorem aAs (size off id:Nat) (v:V) (cs:List V):aAT size off id v (some (.box cs)) = if v.cells.length = size ∧ off + size <= cs.length ∧ v.known = true then some (.any,[(id,some (.box (dP cs off v.cells)))]) else none:=rfl
theorem aCw (C:Nat->List D->Option D) (size:Nat) (x:bS) (lo hi:Option bS):b7 C site ev bl (.slice size x lo hi) = B2 bl size (ev x) (lo.map ev) (hi.map ev):=rfl
def aEF (ver:Nat) (b:Option aH):Option (List (List D)):=match b with
 | some (.rows v _ _ rows)=>if ver = v then some rows else none
 | some (.froz v rows)=>if ver = v then some rows else none
 | _=>none
def MM (v:Option V) (d:Int):Option Int:=match v with
 | none=>some d
 | some (.d (.int _ h))=>some h
 | _=>none
theorem aCn {α:Type} (size:Nat) (c:α->List D) (xs:List α) (lo hi:Option V) (l h:Int) (hl:MM lo 0 = some l) (hh:MM hi (xs.length:Int) = some h) (hs:sized size (cM c xs) = true) (bl:Nat->Option aH):K1 (B2 bl size (.d (.sl (cM c xs))) lo hi) k = if yF xs.length l h then k (.d (.sl (cM c (lZ xs l h)))) [] else none:=by
 have e0:∀ lo' hi',B2 bl size (.d (.sl (cM c xs))) lo' hi' = (match MM hi' ((cM c xs).length:Int),MM lo' 0 with
   | some h,some l=>if 0 <= l ∧ l <= h ∧ h.toNat <= (cM c xs).length ∧ sized size (cM c xs) = true then some (.d (.sl (((cM c xs).take h.toNat).drop l.toNat)),[]) else none
   | _,_=>none):=fun lo' hi'=>rfl
 rw [e0,show ((cM c xs).length:Int) = (xs.length:Int) by simp [cM],hl,hh]
 simp only [show (cM c xs).length = xs.length by simp [cM]]
 by_cases q:yF xs.length l h
 ·rw [if_pos q,if_pos ⟨q.1,q.2.1,q.2.2,hs⟩]
  simp only [aCh,cM,lZ,List.map_drop,List.map_take]
 ·rw [if_neg q,if_neg (fun w=>q ⟨w.1,w.2.1,w.2.2.1⟩)]; rfl
end
section
variable {S X:Type} {enc:S->St} {out:X->Ex × St}
theorem aDy (c:Prop) [Decidable c] (a b:Option (S ⊕ X)):cU enc out (if c then a else b) = if c then cU enc out a else cU enc out b:=by split <;> rfl
theorem Y8 {α:Type} (o:Option α) (f:α->Option (S ⊕ X)):cU enc out (o.bind f) = o.bind fun x=>cU enc out (f x):=by cases o <;> rfl
theorem ZC:cU enc out none = none:=rfl
theorem aDf (s:S):cU enc out (some (.inl s)) = some (.normal,enc s):=rfl
theorem aDN (x:X):cU enc out (some (.inr x)) = some (out x):=rfl
end
theorem jD {α:Type} (size:Nat) (c:α->List D) (hc:∀ x,(c x).length = size) (xs:List α):sized size (cM c xs) = true:=by
 simp [sized,cM,hc]
theorem aGv (xs:List Int):sized 1 (cM cI xs) = true:=jD _ _ (fun x=>by rfl) xs
theorem aEN (k:IntKind) (xs:List Int):sized 1 (cM (cK k) xs) = true:=jD _ _ (fun x=>by rfl) xs
theorem aF2 (xs:List Bool):sized 1 (cM cB xs) = true:=jD _ _ (fun x=>by rfl) xs
theorem aG7 (xs:List ByteArray):sized 1 (cM cS xs) = true:=jD _ _ (fun x=>by rfl) xs
theorem aGp {α:Type} (c:α->List D) (xs:List (List α)):sized 1 (cM (cL c) xs) = true:=jD _ _ (fun x=>by rfl) xs
theorem D0 {α:Type} (c:α->List D) (xs:List α):(cM c xs).length = xs.length:=by simp [cM]
theorem aBZ {α:Type} (c:α->List D) (xs ys:List α):cM c xs ++ cM c ys = cM c (xs ++ ys):=by simp [cM]
theorem aKL {α:Type} (c:α->List D) (xs:List α) (i:Nat) (x:α):cM c (xs.set i x) = (cM c xs).set i (c x):=by simp [cM,List.map_set]
theorem aFd {α γ:Type} (c:Prop) [Decidable c] (a b:Option α) (f:α->Option γ):(if c then a else b).bind f = if c then a.bind f else b.bind f:=by split <;> rfl
theorem aJt {α γ:Type} (c:Prop) [Decidable c] (a b:Option α) (f:α->γ):(if c then a else b).map f = if c then a.map f else b.map f:=by split <;> rfl
theorem bind_map {α γ δ:Type} (o:Option α) (f:α->Option γ) (g:γ->δ):(o.bind f).map g = o.bind fun x=>(f x).map g:=by cases o <;> rfl
theorem aBN {α γ:Type} (f:α->Option γ):(none:Option α).bind f = none:=rfl
theorem aCK {α γ δ ε:Type} (f:α->Option δ) (g:γ->Option δ) (x:α ⊕ γ) (h:δ->Option ε):(Sum.elim f g x).bind h = Sum.elim (fun y=>(f y).bind h) (fun y=>(g y).bind h) x:=by cases x <;> rfl
theorem aGo {α γ δ ε:Type} (f:α->Option δ) (g:γ->Option δ) (x:α ⊕ γ) (h:δ->ε):(Sum.elim f g x).map h = Sum.elim (fun y=>(f y).map h) (fun y=>(g y).map h) x:=by cases x <;> rfl
def gIf {α:Type} (b:Bool) (x y:α):α:=if b = true then x else y
theorem aF3 {α:Type} (b:Bool) (x y:α):gIf b x y = if b = true then x else y:=rfl
theorem Y4 {S X α γ:Type} {enc:S->St} {out:X->Ex × St} (f:α->Option (S ⊕ X)) (g:γ->Option (S ⊕ X)) (x:α ⊕ γ):cU enc out (Sum.elim f g x) = Sum.elim (fun y=>cU enc out (f y)) (fun y=>cU enc out (g y)) x:=by cases x <;> rfl
def aNF (sf:dH):Ex->St->Option D
 | .normal,s=>FZ sf s
 | .ret,s=>FZ sf s
 | .exit _,_=>none
theorem aDZ {T:zS} {f:Nat} {sf:dH} (hf:T f = some (.code sf)) (ds:List D) (hl:ds.length = sf.np) (hlt:lN 0 ds = none):Vm.call T f ds = bP T sf.body ⟨pV 0 ds,[]⟩ (aNF sf):=by
 rw [aHC hf ds hl hlt]
 unfold bP
 cases Vm.ev T sf.body ⟨pV 0 ds,[]⟩ with
 | none=>rfl
 | some q =>
  obtain ⟨e,s⟩:=q
  cases e <;> rfl
theorem aL {α β:Type} (o:Option α) {f g:α->Option β} (h:∀ x,f x = g x):o.bind f = o.bind g:=by rw [funext h]
end Vm
end Go.Proofs.Ytjjcaapdaldedaa
namespace Go.Proofs.Ytjjcaapdaldedaa
namespace Vm
open Go.RowKit
section
variable {β:Type}
def wD (fr:List (Nat × V)) (t:Nat) (k:V->Option β):Option β:=k (lk fr .any t)
def cV (bl:List (Nat × Option aH)) (i:Nat) (k:Option aH->Option β):Option β:=k (lk bl none i)
def dL (fr:List (Nat × V)) (o:bS) (k:V->Option β):Option β:=k (bH (lk fr .any) o)
theorem aE6 (t:Nat) (v:V) (fr:List (Nat × V)) (k:V->Option β):wD ((t,v) :: fr) t k = k v:=by simp [wD,lk]
theorem aCx (a t:Nat) (v:V) (fr:List (Nat × V)) (k:V->Option β) (h:(t == a) = false):wD ((a,v) :: fr) t k = wD fr t k:=by
 have:¬ t = a:=by simpa using h
 simp [wD,lk,this]
theorem aF4 (t:Nat) (v:Option aH) (fr:List (Nat × Option aH)) (k:Option aH->Option β):cV ((t,v) :: fr) t k = k v:=by simp [cV,lk]
theorem aDp (a t:Nat) (v:Option aH) (fr:List (Nat × Option aH)) (k:Option aH->Option β) (h:(t == a) = false):cV ((a,v) :: fr) t k = cV fr t k:=by
 have:¬ t = a:=by simpa using h
 simp [cV,lk,this]
theorem aEX (t:Nat) (k:Option aH->Option β):cV [] t k = k none:=rfl
theorem aJY (bl:List (Nat × Option aH)) (t:Nat) (k:Option aH->Option β):cV ([] ++ bl) t k = cV bl t k:=rfl
theorem aIC (p:Nat × Option aH) (w bl:List (Nat × Option aH)) (t:Nat) (k:Option aH->Option β):cV ((p :: w) ++ bl) t k = cV (p :: (w ++ bl)) t k:=rfl
theorem aKn (fr:List (Nat × V)) (t:Nat) (k:V->Option β):dL fr (.t t) k = wD fr t k:=rfl
theorem aKm (fr:List (Nat × V)) (v:V) (k:V->Option β):dL fr (.c v) k = k v:=rfl
def aR (ds:List D):List V:=ds.map .d
def jQ (ds:List D):V:=.agg (aR ds)
noncomputable def yN (T:zS) (d:Nat) (op:gG) (fr:List (Nat × V)) (bl:List (Nat × Option aH)) (k:V->Option β) (kw:V->List (Nat × Option aH)->Option β):Option β :=
 match b7 (call T) d (bH (lk fr .any)) (lk bl none) op with
 | none=>none
 | some (v,[])=>k v
 | some (v,p :: wr)=>kw v (p :: wr)
theorem aCj {T:zS} (d st:Nat) (op:gG) (l:List aM) (fr:List (Nat × V)) (bl:List (Nat × Option aH)) (k:St->Option β) :
  wP T (⟨some d,op,none,st⟩ :: l) ⟨fr,bl⟩ k = yN T st op fr bl (fun v=>wP T l ⟨(d,v) :: fr,bl⟩ k) (fun v wr=>wP T l ⟨(d,v) :: fr,wr ++ bl⟩ k):=by
 rw [SE]
 unfold yN K1
 show (match b7 (call T) st (bH (lk fr .any)) (lk bl none) op with | some (v,wr)=>_ | none=>none) = _
 cases b7 (call T) st (bH (lk fr .any)) (lk bl none) op with
 | none=>rfl
 | some r=>obtain ⟨v,wr⟩:=r; cases wr <;> rfl
theorem aAE {T:zS} (st:Nat) (op:gG) (l:List aM) (fr:List (Nat × V)) (bl:List (Nat × Option aH)) (k:St->Option β) :
  wP T (⟨none,op,none,st⟩ :: l) ⟨fr,bl⟩ k = yN T st op fr bl (fun _=>wP T l ⟨fr,bl⟩ k) (fun _ wr=>wP T l ⟨fr,wr ++ bl⟩ k):=by
 rw [SE]
 unfold yN K1
 show (match b7 (call T) st (bH (lk fr .any)) (lk bl none) op with | some (v,wr)=>_ | none=>none) = _
 cases b7 (call T) st (bH (lk fr .any)) (lk bl none) op with
 | none=>rfl
 | some r=>obtain ⟨v,wr⟩:=r; cases wr <;> rfl
def K3 (t:Nat) (b:Bool) (op:gG):gG:=match op with
 | .pick (.t t') x y=>if t' = t then .move (if b then x else y) else op
 | op=>op
def KT (t:Nat) (b:Bool) (o:aM):aM:=match o.guard with
 | some (t',w)=>if t' = t then (if w = b then ⟨o.dst,K3 t b o.op,none,o.site⟩ else ⟨o.dst,.move (.c (.tup [])),none,o.site⟩) else ⟨o.dst,K3 t b o.op,some (t',w),o.site⟩
 | none=>⟨o.dst,K3 t b o.op,none,o.site⟩
def BX (t:Nat) (b:Bool):List aM->List aM
 | []=>[]
 | o :: l=>KT t b o :: (if o.dst = some t then l else BX t b l)
theorem AX {C:Nat->List D->Option D} {site:Nat} {fr:Nat->V} {bl:Nat->Option aH} {t:Nat} {b:Bool} (h:fr t = .d (.bool b)) (op:gG):b7 C site (bH fr) bl (K3 t b op) = b7 C site (bH fr) bl op:=by
 cases op with
 | pick c x y =>
  cases c with
  | t t' =>
   simp only [K3]
   split
   ·rename_i e
    subst e
    simp only [b7,bH,h]
    cases b <;> rfl
   ·rfl
  | c v=>rfl
 | _=>rfl
theorem aBT {C:Nat->List D->Option D} {s:St} {t:Nat} {b:Bool} (h:s.get t = .d (.bool b)) (o:aM):uL C (KT t b o) s = uL C o s:=by
 obtain ⟨d,op,g,st⟩:=o
 cases g with
 | some g =>
  obtain ⟨t',w⟩:=g
  simp only [KT]
  split
  ·rename_i e
   subst e
   split
   ·rename_i e
    subst e
    simp only [uL,aM.wants,h,AX h]
    cases w <;> rfl
   ·rename_i e
    simp only [uL,aM.wants,h,b7,bH]
    cases w <;> cases b <;> simp_all [yR]
  ·simp only [uL,aM.wants,AX h]
 | none=>simp only [KT,uL,aM.wants,AX h]
theorem ED {s:St} {d:Option Nat} {v:V} {wr:List (Nat × Option aH)} {t:Nat} (h:¬ d = some t):(s.put d v wr).get t = s.get t:=by
 cases d with
 | none=>rfl
 | some a =>
  show lk ((a,v) :: s.fr) .any t = lk s.fr .any t
  have:¬ t = a:=fun e=>h (by rw [e])
  simp [lk,this]
theorem aDq {C:Nat->List D->Option D} {o:aM} {s s' : St} {t:Nat} (h:¬ o.dst = some t) (e:uL C o s = some s'):s'.get t = s.get t:=by
 unfold uL at e
 split at e
 ·split at e
  ·cases e; exact ED h
  ·cases e
 ·cases e; exact ED h
 ·cases e
theorem NM {C:Nat->List D->Option D} {t:Nat} {b:Bool}:∀ (l:List aM) {s:St} (h:s.get t = .d (.bool b)),lG C (BX t b l) s = lG C l s
 | [],s,h=>rfl
 | o :: l,s,h=>by
  simp only [BX,lG,aBT h]
  cases e:uL C o s with
  | none=>rfl
  | some s' =>
   simp only
   split
   ·rfl
   ·rename_i hd
    exact NM l (by rw [aDq hd e]; exact h)
noncomputable def NP (T:zS) (v:V) (t:Nat) (l:List aM) (s:St) (k:St->Option β):Option β:=match v with
 | .d (.bool b)=>if b = true then wP T (BX t true l) s k else wP T (BX t false l) s k
 | .tup []=>match l with
  | o :: r=>wP T r (s.put o.dst (.tup []) []) k
  | []=>none
 | _=>none
theorem aAd {T:zS} (d:Option Nat) (op:gG) (t:Nat) (w:Bool) (st:Nat) (l:List aM) (fr:List (Nat × V)) (bl:List (Nat × Option aH)) (k:St->Option β) :
  wP T (⟨d,op,some (t,w),st⟩ :: l) ⟨fr,bl⟩ k = wD fr t fun v=>NP T v t (⟨d,op,some (t,w),st⟩ :: l) ⟨fr,bl⟩ k:=by
 show _ = NP T (lk fr .any t) t _ _ k
 generalize hv:lk fr .any t = v
 have bad:∀ (q:yR v w = .bad),wP T (⟨d,op,some (t,w),st⟩ :: l) ⟨fr,bl⟩ k = none:=by
  intro q
  unfold wP
  simp only [lG,uL,aM.wants]
  rw [show (St.get ⟨fr,bl⟩ t) = v from hv,q]; rfl
 cases v with
 | d x =>
  cases x with
  | bool b =>
   simp only [NP]
   cases b with
   | true=>rw [if_pos rfl]; unfold wP; rw [NM (t:=t) (b:=true) (s:=⟨fr,bl⟩) _ hv]
   | false=>rw [if_neg (by decide)]; unfold wP; rw [NM (t:=t) (b:=false) (s:=⟨fr,bl⟩) _ hv]
  | _=>exact bad rfl
 | tup vs =>
  cases vs with
  | nil =>
   simp only [NP]
   unfold wP
   simp only [lG,uL,aM.wants]
   rw [show (St.get ⟨fr,bl⟩ t) = _ from hv]
   rfl
  | cons x l=>exact bad rfl
 | _=>exact bad rfl
theorem aFg {T:zS} (b:Bool) (t:Nat) (l:List aM) (s:St) (k:St->Option β):NP T (.d (.bool b)) t l s k = if b = true then wP T (BX t true l) s k else wP T (BX t false l) s k:=rfl
theorem aG0 {T:zS} (t d st:Nat) (op:gG) (g:Option (Nat × Bool)) (l:List aM) (fr:List (Nat × V)) (bl:List (Nat × Option aH)) (k:St->Option β):NP T (.tup []) t (⟨some d,op,g,st⟩ :: l) ⟨fr,bl⟩ k = wP T l ⟨(d,.tup []) :: fr,bl⟩ k:=rfl
theorem A7 {T:zS} {l l' : List aM} {s:St} {k:St->Option β} (h:l = l'):wP T l s k = wP T l' s k:=by rw [h]
section
variable {T:zS} {d:Nat} {fr:List (Nat × V)} {bl:List (Nat × Option aH)} {k:V->Option β} {kw:V->List (Nat × Option aH)->Option β}
def KG (r:I9) (k:V->Option β) (kw:V->List (Nat × Option aH)->Option β):Option β:=match r with
 | none=>none
 | some (v,[])=>k v
 | some (v,p :: wr)=>kw v (p :: wr)
theorem aAy (o:Option D):KG (I9.v o) k kw = o.bind fun x=>k (.d x):=by cases o <;> rfl
theorem aF9 (x:bS):yN T d (.move x) fr bl k kw = dL fr x k:=rfl
def lS (b:Option aH) (x:Option β):Option β:=match b with
 | none=>x
 | some _=>none
theorem aJE (x:Option β):lS none x = x:=rfl
theorem aDL (z:List V):yN T d (.alloc z) fr bl k kw = cV bl d fun b=>lS b (kw (.ptr d 0) [(d,some (.box z))]):=by
 unfold yN cV lS
 simp only [b7]
 cases lk bl none d <;> rfl
def D7 (v:V) (k:List V->Option β):Option β:=if v.known = true then k v.cells else none
theorem aGg (x:D) (k:List V->Option β):D7 (.d x) k = k [.d x]:=rfl
theorem YD (cs:List V) (k:List V->Option β):D7 (.agg cs) k = k cs:=rfl
theorem VQ (ds:List D) (k:List V->Option β):D7 (jQ ds) k = k (aR ds):=rfl
theorem YL (i o:Nat) (k:List V->Option β):D7 (.own i o) k = k [.own i o]:=rfl
theorem aIp (x:bS):yN T d (.box x) fr bl k kw = cV bl d fun b=>lS b (dL fr x fun v=>D7 v fun cs=>kw (.ptr d 0) [(d,some (.box cs))]):=by
 unfold yN cV lS dL D7
 simp only [b7]
 cases lk bl none d with
 | none =>
  simp only
  by_cases h:(bH (lk fr .any) x).known = true
  ·rw [if_pos h,if_pos h]
  ·rw [if_neg h,if_neg h]
 | some b=>rfl
def K5 (fr:List (Nat × V)):List bS->(List V->Option β)->Option β
 | [],k=>k []
 | x :: l,k=>dL fr x fun v=>K5 fr l fun vs=>k (v :: vs)
theorem W0 (l:List bS) (k:List V->Option β):K5 fr l k = k (l.map (bH (lk fr .any))):=by
 induction l generalizing k with
 | nil=>rfl
 | cons x l ih=>simp only [K5,dL,ih,List.map_cons]
theorem aB7 (k:List V->Option β):K5 fr [] k = k []:=rfl
theorem YW (x:bS) (l:List bS) (k:List V->Option β):K5 fr (x :: l) k = dL fr x fun v=>K5 fr l fun vs=>k (v :: vs):=rfl
def I8 (fr:List (Nat × V)):List (Nat × Nat × bS)->(List (Nat × Nat × V)->Option β)->Option β
 | [],k=>k []
 | (o,s,x) :: l,k=>dL fr x fun v=>I8 fr l fun vs=>k ((o,s,v) :: vs)
theorem rK (op:gG):yN T d op fr bl k kw = KG (b7 (call T) d (bH (lk fr .any)) (lk bl none) op) k kw:=by
 unfold yN KG
 cases b7 (call T) d (bH (lk fr .any)) (lk bl none) op with
 | none=>rfl
 | some r=>obtain ⟨v,wr⟩:=r; cases wr <;> rfl
theorem GU (r:I9):KG r k kw = K1 r fun v wr=>match wr with | []=>k v | p :: w=>kw v (p :: w):=by
 cases r with
 | none=>rfl
 | some r=>obtain ⟨v,wr⟩:=r; cases wr <;> rfl
def AN:List V->Nat->(V->Option β)->Option β
 | [],_,_=>none
 | c :: _,0,k=>k c
 | _ :: cs,n + 1,k=>AN cs n k
theorem K4 (cs:List V) (n:Nat) (k:V->Option β):AN cs n k = cs[n]?.bind k:=by
 induction cs generalizing n with
 | nil=>rfl
 | cons c cs ih=>cases n with
  | zero=>rfl
  | succ n=>simp only [AN,ih,List.getElem?_cons_succ]
theorem aHe (c:V) (cs:List V) (k:V->Option β):AN (c :: cs) 0 k = k c:=rfl
theorem aJX (c:V) (cs:List V) (n:Nat) (k:V->Option β):AN (c :: cs) (n + 1) k = AN cs n k:=rfl
def dM (ds:List D) (n:Nat) (k:D->Option β):Option β:=ds[n]?.bind k
def vT (ds:List D) (off size:Nat) (k:List D->Option β):Option β:=if off + size <= ds.length then k ((ds.drop off).take size) else none
def IV (cs:List V) (off size:Nat) (k:List V->Option β):Option β:=if off + size <= cs.length then k ((cs.drop off).take size) else none
theorem aBs (ds:List D) (n:Nat) (k:V->Option β):AN (aR ds) n k = dM ds n fun x=>k (.d x):=by
 rw [K4]
 unfold aR dM
 rw [List.getElem?_map]
 cases ds[n]? <;> rfl
theorem aDJ (cs:List V) (n:Nat) (k:List V->Option β) (h:cs.length = n):IV cs 0 n k = k cs:=by
 subst h
 simp [IV]
theorem aIg (ds:List D) (off n:Nat) (k:List V->Option β):IV (aR ds) off n k = vT ds off n fun l=>k (aR l):=by
 unfold IV vT aR
 simp only [List.length_map,List.map_take,List.map_drop]
def FO (size:Nat) (isAgg:Bool) (off:Nat) (b:Option aH) (k:V->Option β):Option β:=match b with
 | some (.box cs)=>if isAgg = true then IV cs off size fun l=>k (.agg l) else AN cs off k
 | some (.fbox row)=>if isAgg = true then vT row off size fun l=>k (jQ l) else dM row off fun x=>k (.d x)
 | _=>none
def QY (size:Nat) (isAgg:Bool) (ver i off:Nat) (b:Option aH) (k:V->Option β):Option β:=match b with
 | some (.rows v e sz rows)=>if ver = v then rows[i]?.bind fun row=>(if isAgg = true then vT row off size fun l=>k (jQ l) else dM row off fun x=>k (.d x)) else none
 | _=>none
def CO (size:Nat) (isAgg:Bool) (x:V) (bl:List (Nat × Option aH)) (k:V->Option β):Option β:=match x with
 | .ptr id off=>cV bl id fun b=>FO size isAgg off b k
 | .d (.ptr row off)=>if isAgg = true then vT row off size fun l=>k (jQ l) else dM row off fun x=>k (.d x)
 | .orow id ver i off=>cV bl id fun b=>QY size isAgg ver i off b k
 | _=>none
theorem VC (size:Nat) (isAgg:Bool) (x:bS):yN T d (.load size isAgg x) fr bl k kw = dL fr x fun v=>CO size isAgg v bl k:=by
 rw [rK,KJ]
 unfold dL
 generalize bH (lk fr .any) x = v
 have hD:∀ row off,KG (WH size isAgg off row) k kw = if isAgg = true then vT row off size fun l=>k (jQ l) else dM row off fun x=>k (.d x):=by
  intro row off
  unfold WH
  cases isAgg with
  | true=>simp only [if_true,vT]; split <;> rfl
  | false=>simp only [Bool.false_eq_true,if_false,dM]; cases row[off]? <;> rfl
 cases v with
 | ptr id off =>
  rw [aDG]
  simp only [CO,cV]
  generalize lk bl none id = b
  cases b with
  | none=>rfl
  | some b=>cases b with
   | box cs =>
    cases isAgg with
    | true=>simp only [aII,FO,if_true,IV]; split <;> rfl
    | false=>simp only [aHN,FO,Bool.false_eq_true,if_false,K4]; cases cs[off]? <;> rfl
   | fbox row=>exact hD row off
   | _=>rfl
 | d x=>cases x with
  | ptr row off=>exact hD row off
  | _=>rfl
 | orow id ver i off =>
  rw [aJV]
  simp only [CO,cV]
  generalize lk bl none id = b
  cases b with
  | none=>rfl
  | some b=>cases b with
   | rows v e sz rows =>
    simp only [aEr,QY]
    split
    ·cases rows[i]? with
     | none=>rfl
     | some row=>exact hD row off
    ·rfl
   | _=>rfl
 | _=>rfl
theorem aBS (size:Nat) (isAgg:Bool) (id off:Nat):CO size isAgg (.ptr id off) bl k = cV bl id fun b=>FO size isAgg off b k:=rfl
theorem aFb (size:Nat) (row:List D) (off:Nat):CO size true (.d (.ptr row off)) bl k = vT row off size fun l=>k (jQ l):=rfl
theorem aFc (size:Nat) (row:List D) (off:Nat):CO size false (.d (.ptr row off)) bl k = dM row off fun x=>k (.d x):=rfl
theorem aJW (size:Nat) (isAgg:Bool) (id ver i off:Nat):CO size isAgg (.orow id ver i off) bl k = cV bl id fun b=>QY size isAgg ver i off b k:=rfl
theorem aDm (size off:Nat) (row:List D):FO size false off (some (.fbox row)) k = dM row off fun x=>k (.d x):=rfl
theorem aE2 (size off:Nat) (cs:List V):FO size false off (some (.box cs)) k = AN cs off k:=rfl
theorem aGF (size off:Nat) (c:V) (cs:List V):FO size true off (some (.box (c :: cs))) k = IV (c :: cs) off size fun l=>k (.agg l):=rfl
theorem aEM (size off:Nat) (ds:List D):FO size true off (some (.box (aR ds))) k = vT ds off size fun l=>k (jQ l):=by
 show IV (aR ds) off size (fun l=>k (.agg l)) = _
 rw [aIg]; rfl
theorem X1 {α:Type} (size:Nat) (isAgg:Bool) (v i off e sz:Nat) (c:α->List D) (xs:List α):QY size isAgg v i off (some (.rows v e sz (cM c xs))) k = xs[i]?.bind fun x=>CO size isAgg (.d (.ptr (c x) off)) [] k:=by
 simp only [QY,if_true,cM,List.getElem?_map]
 cases xs[i]? <;> rfl
def B0:List V->Nat->V->(List V->Option β)->Option β
 | [],_,_,_=>none
 | _ :: cs,0,v,k=>k (v :: cs)
 | c :: cs,n + 1,v,k=>B0 cs n v fun l=>k (c :: l)
theorem V8 (cs:List V) (n:Nat) (v:V) (k:List V->Option β):B0 cs n v k = if n + 1 <= cs.length then k (dP cs n [v]) else none:=by
 induction cs generalizing n k with
 | nil=>rfl
 | cons c cs ih=>cases n with
  | zero=>rw [if_pos (by simp)]; cases cs <;> rfl
  | succ n =>
   simp only [B0,ih,dP,List.length_cons]
   by_cases h:n + 1 <= cs.length
   ·rw [if_pos h,if_pos (by omega)]
   ·rw [if_neg h,if_neg (by omega)]
theorem aHG (c:V) (cs:List V) (v:V) (k:List V->Option β):B0 (c :: cs) 0 v k = k (v :: cs):=rfl
theorem aHn (c:V) (cs:List V) (n:Nat) (v:V) (k:List V->Option β):B0 (c :: cs) (n + 1) v k = B0 cs n v fun l=>k (c :: l):=rfl
def xV (cs:List V) (off:Nat) (ws:List V) (k:List V->Option β):Option β:=if off + ws.length <= cs.length then k (dP cs off ws) else none
theorem R8 {α:Type} (l:List α) (n:Nat):dP l n [] = l:=by cases l <;> rfl
theorem WL (c:V) (cs:List V) (off:Nat) (ws:List V) (k:List V->Option β) (hw:ws ≠ []):xV (c :: cs) (off + 1) ws k = xV cs off ws fun l=>k (c :: l):=by
 unfold xV
 cases ws with
 | nil=>exact absurd rfl hw
 | cons w ws =>
  simp only [List.length_cons,dP]
  by_cases h:off + (ws.length + 1) <= cs.length
  ·rw [if_pos h,if_pos (by omega)]
  ·rw [if_neg h,if_neg (by omega)]
theorem YM (c:V) (cs:List V) (w:V) (ws:List V) (k:List V->Option β):xV (c :: cs) 0 (w :: ws) k = xV cs 0 ws fun l=>k (w :: l):=by
 unfold xV
 simp only [List.length_cons,dP]
 by_cases h:0 + ws.length <= cs.length
 ·rw [if_pos h,if_pos (by omega)]
 ·rw [if_neg h,if_neg (by omega)]
theorem Z1 (cs:List V) (k:List V->Option β):xV cs 0 [] k = k cs:=by simp [xV,R8]
def fK (size off id:Nat) (v:V) (b:Option aH) (kw:V->List (Nat × Option aH)->Option β):Option β:=match b with
 | some (.box cs)=>if v.cells.length = size ∧ off + size <= cs.length ∧ v.known = true then kw .any [(id,some (.box (dP cs off v.cells)))] else none
 | _=>none
def LY (size ver i off id:Nat) (v:V) (bl:List (Nat × Option aH)) (b:Option aH) (kw:V->List (Nat × Option aH)->Option β):Option β:=K1 (PM size ver i off id (vY (lk bl none) v) (aJ (j8 (lk bl none)) v.cells) b) kw
def QD (size:Nat) (p v:V) (bl:List (Nat × Option aH)) (kw:V->List (Nat × Option aH)->Option β):Option β:=match p with
 | .ptr id off=>cV bl id fun b=>fK size off id v b kw
 | .orow id ver i off=>cV bl id fun b=>LY size ver i off id v bl b kw
 | _=>none
theorem aDl (size:Nat) (x v:bS):yN T d (.store size x v) fr bl k kw = dL fr x fun p=>dL fr v fun w=>QD size p w bl kw:=by
 rw [rK,aCJ]
 unfold dL
 generalize bH (lk fr .any) x = p
 generalize bH (lk fr .any) v = w
 cases p with
 | ptr id off =>
  rw [aFI]
  simp only [QD,cV]
  generalize lk bl none id = b
  cases b with
  | none=>rfl
  | some b=>cases b with
   | box cs =>
    simp only [aAs,fK]
    by_cases h:w.cells.length = size ∧ off + size <= cs.length ∧ w.known = true
    ·rw [if_pos h,if_pos h]; rfl
    ·rw [if_neg h,if_neg h]; rfl
   | _=>rfl
 | orow id ver i off =>
  rw [aEf]
  simp only [QD,cV,LY]
  rw [GU]
  generalize lk bl none id = b
  cases b with
  | none=>rfl
  | some b=>cases b with
   | rows v e sz rows =>
    simp only [PM]
    by_cases h:ver = v
    ·rw [if_pos h]
     cases rows[i]? with
     | none=>rfl
     | some row =>
      cases aJ (j8 (lk bl none)) w.cells with
      | none=>rfl
      | some ds =>
       simp only
       split <;> rfl
    ·rw [if_neg h]; rfl
   | _=>rfl
 | _=>rfl
theorem aFZ (size id off:Nat) (v:V):QD size (.ptr id off) v bl kw = cV bl id fun b=>fK size off id v b kw:=rfl
theorem aFr (size id ver i off:Nat) (v:V):QD size (.orow id ver i off) v bl kw = cV bl id fun b=>LY size ver i off id v bl b kw:=rfl
theorem GN (off id:Nat) (w c:V) (cs:List V) (hw:w.one = true) (hk:w.known = true):fK 1 off id w (some (.box (c :: cs))) kw = B0 (c :: cs) off w fun l=>kw .any [(id,some (.box l))]:=by
 have hc:w.cells = [w]:=by cases w <;> first | rfl | cases hw
 rw [V8]
 simp only [fK,hc,hk]
 by_cases h:off + 1 <= (c :: cs).length
 ·rw [if_pos h,if_pos ⟨rfl,h,trivial⟩]
 ·rw [if_neg h,if_neg (fun q=>h q.2.1)]
theorem aCg (off id:Nat) (x:D) (c:V) (cs:List V):fK 1 off id (.d x) (some (.box (c :: cs))) kw = B0 (c :: cs) off (.d x) fun l=>kw .any [(id,some (.box l))]:=GN off id _ c cs rfl rfl
theorem X3 (off id i v:Nat) (c:V) (cs:List V):fK 1 off id (.own i v) (some (.box (c :: cs))) kw = B0 (c :: cs) off (.own i v) fun l=>kw .any [(id,some (.box l))]:=GN off id _ c cs rfl rfl
theorem XU (off id i v:Nat) (c:V) (cs:List V):fK 1 off id (.ptr i v) (some (.box (c :: cs))) kw = B0 (c :: cs) off (.ptr i v) fun l=>kw .any [(id,some (.box l))]:=GN off id _ c cs rfl rfl
def KR (cs:List V) (n:Nat) (x:Option β):Option β:=if cs.length = n then x else none
theorem aIV (x:Option β):KR [] 0 x = x:=rfl
theorem aHS (c:V) (cs:List V) (n:Nat) (x:Option β):KR (c :: cs) (n + 1) x = KR cs n x:=by
 unfold KR
 simp only [List.length_cons]
 by_cases h:cs.length = n
 ·rw [if_pos h,if_pos (by omega)]
 ·rw [if_neg h,if_neg (by omega)]
theorem VF (size off id:Nat) (ws:List V) (c:V) (cs:List V):fK size off id (.agg ws) (some (.box (c :: cs))) kw = KR ws size (xV (c :: cs) off ws fun l=>kw .any [(id,some (.box l))]):=by
 unfold KR xV
 show (if ws.length = size ∧ off + size <= (c :: cs).length ∧ V.known (.agg ws) = true then kw .any [(id,some (.box (dP (c :: cs) off ws)))] else none) = _
 by_cases h:ws.length = size
 ·subst h
  rw [if_pos rfl]
  by_cases h:off + ws.length <= (c :: cs).length
  ·rw [if_pos h,if_pos ⟨rfl,h,rfl⟩]
  ·rw [if_neg h,if_neg (fun q=>h q.2.1)]
 ·rw [if_neg h,if_neg (fun q=>h q.1)]
theorem SQ {α:Type}:∀ (l m:List α),l.length = m.length->dP l 0 m = m
 | [],[],_=>rfl
 | _ :: l,x :: m,h=>by
  simp only [dP]
  rw [SQ l m (by simpa using h)]
 | [],_ :: _,h=>by simp at h
 | _ :: _,[],h=>by simp at h
theorem gJ (n id:Nat) (ds:List D) (hd:ds.length = n) (cs:List V) (hc:cs.length = n):fK n 0 id (jQ ds) (some (.box cs)) kw = kw .any [(id,some (.box (aR ds)))]:=by
 have e:(aR ds).length = n:=by rw [← hd]; simp [aR]
 show (if (aR ds).length = n ∧ 0 + n <= cs.length ∧ V.known (jQ ds) = true then kw .any [(id,some (.box (dP cs 0 (aR ds))))] else none) = _
 rw [if_pos ⟨e,by omega,rfl⟩,SQ _ _ (by rw [hc,e])]
def aLE (v:V) (bl:List (Nat × Option aH)) (k:V->Option β):Option β:=match v with
 | .ptr id off=>k (.ptr id off)
 | .d (.ptr row off)=>k (.d (.ptr row off))
 | .orow id ver i off=>cV bl id fun b=>match b with
  | some (.rows v _ _ _)=>if ver = v then k (.orow id ver i off) else none
  | _=>none
 | _=>none
theorem UW (x:bS):yN T d (.nilCheck x) fr bl k kw = dL fr x fun v=>aLE v bl k:=by
 unfold yN dL
 simp only [b7]
 generalize bH (lk fr .any) x = v
 cases v with
 | d x=>cases x <;> rfl
 | orow id ver i off =>
  simp only [aLE,cV]
  generalize lk bl none id = b
  cases b with
  | none=>rfl
  | some b=>cases b with
   | rows v e s rows=>simp only; by_cases h:ver = v <;> simp [h]
   | _=>rfl
 | _=>rfl
def U8 (id ver i off:Nat) (b:Option aH) (k:V->Option β):Option β:=match b with
 | some (.rows v _ _ _)=>if ver = v then k (.orow id ver i off) else none
 | _=>none
theorem aIk (id ver i off e s:Nat) (rows:List (List D)):U8 id ver i off (some (.rows ver e s rows)) k = k (.orow id ver i off):=if_pos rfl
def faK (off:Nat) (v:V) (bl:List (Nat × Option aH)) (k:V->Option β):Option β:=match v with
 | .ptr id o=>k (.ptr id (o + off))
 | .d (.ptr row o)=>k (.d (.ptr row (o + off)))
 | .orow id ver i o=>cV bl id fun b=>U8 id ver i (o + off) b k
 | _=>none
theorem RW (off:Nat) (x:bS):yN T d (.fieldAddr off x) fr bl k kw = dL fr x fun v=>faK off v bl k:=by
 unfold yN dL
 simp only [b7]
 generalize bH (lk fr .any) x = v
 cases v with
 | d x=>cases x <;> rfl
 | orow id ver i o =>
  simp only [faK,cV]
  generalize lk bl none id = b
  cases b with
  | none=>rfl
  | some b=>cases b with
   | rows v e s rows=>simp only [U8]; by_cases h:ver = v <;> simp [h]
   | _=>rfl
 | _=>rfl
theorem aMh (off id o:Nat):faK off (.ptr id o) bl k = k (.ptr id (o + off)):=rfl
theorem aME (off:Nat) (row:List D) (o:Nat):faK off (.d (.ptr row o)) bl k = k (.d (.ptr row (o + off))):=rfl
theorem aLS (off id ver i o:Nat):faK off (.orow id ver i o) bl k = cV bl id fun b=>U8 id ver i (o + off) b k:=rfl
def DU (c:Nat) (op:BinOp) (a b:V) (k:V->Option β):Option β:=(FI c op a b).bind fun x=>k (.d x)
theorem aHf (c:Nat) (op:BinOp) (x y:bS):yN T d (.bin c op x y) fr bl k kw = dL fr x fun a=>dL fr y fun b=>DU c op a b k:=by
 rw [rK]
 exact aAy _
section
variable (kd:IntKind) (x y:Int)
theorem aGu:DU 0 .add (.d (.int kd x)) (.d (.int kd y)) k = k (.d (.int kd (IntKind.wrap kd (x + y)))):=by simp [DU,FI,wX]
theorem aEU:DU 0 .sub (.d (.int kd x)) (.d (.int kd y)) k = k (.d (.int kd (IntKind.wrap kd (x - y)))):=by simp [DU,FI,wX]
theorem aFj:DU 0 .rem (.d (.int kd x)) (.d (.int kd y)) k = if y = 0 then none else k (.d (.int kd (x.tmod y))):=by
 simp only [DU,FI,wX,if_true]; split <;> rfl
theorem aEm:DU 0 .eql (.d (.int kd x)) (.d (.int kd y)) k = k (.d (.bool (x == y))):=by simp [DU,FI,wX]
theorem aD3:DU 0 .neq (.d (.int kd x)) (.d (.int kd y)) k = k (.d (.bool (x != y))):=by simp [DU,FI,wX]
theorem aF5:DU 0 .lss (.d (.int kd x)) (.d (.int kd y)) k = k (.d (.bool (decide (x < y)))):=by simp [DU,FI,wX]
theorem aFe:DU 0 .leq (.d (.int kd x)) (.d (.int kd y)) k = k (.d (.bool (decide (x <= y)))):=by simp [DU,FI,wX]
theorem aGb:DU 0 .gtr (.d (.int kd x)) (.d (.int kd y)) k = k (.d (.bool (decide (x > y)))):=by simp [DU,FI,wX]
theorem aEo:DU 0 .geq (.d (.int kd x)) (.d (.int kd y)) k = k (.d (.bool (decide (x ≥ y)))):=by simp [DU,FI,wX]
end
section
variable (x y:ByteArray)
theorem aCR:DU 0 .eql (.d (.str x)) (.d (.str y)) k = k (.d (.bool (x.toList == y.toList))):=rfl
end
def aGm (o:Option D) (k:V->Option β):Option β:=o.bind fun x=>k (.d x)
theorem BL {o o' : Option D} {k:V->Option β} (h:o = o'):aGm o k = aGm o' k:=by rw [h]
section
variable {k:V->Option β}
end
section
variable {k:Bool->Option β}
end
def aDY (kd:IntKind) (x:Int):List V->(V->Option β)->Option β:=fun l k=>aGm (ZV kd x l) k
def aJ6 (l:List V) (k:V->Option β):Option β:=aGm (aIB l) k
theorem aHE (l:List bS):yN T d (.max l) fr bl k kw = K5 fr l fun vs=>aJ6 vs k:=by
 rw [rK,W0]
 exact aAy _
section
variable {k:V->Option β}
theorem aHP (kd:IntKind) (x:Int) (l:List V):aJ6 (.d (.int kd x) :: l) k = aDY kd x l k:=rfl
theorem aEd (kd:IntKind) (x:Int):aDY kd x [] k = k (.d (.int kd x)):=rfl
theorem aBY (kd:IntKind) (x y:Int) (l:List V):aDY kd x (.d (.int kd y) :: l) k = aDY kd (if y > x then y else x) l k:=by simp [aDY,ZV]
end
def unK (op:UnOp) (v:V) (k:V->Option β):Option β:=aGm (unV op v) k
theorem aKG (op:UnOp) (x:bS):yN T d (.un op x) fr bl k kw = dL fr x fun a=>unK op a k:=by
 rw [rK]
 exact aAy _
theorem aIt (b:Bool):unK .not (.d (.bool b)) k = k (.d (.bool !b)):=rfl
def lM (s:ByteArray):List Int:=s.data.toList.map fun b=>(b.toNat:Int)
def Y2 (v:V) (k:V->Option β):Option β:=match v with
 | .d (.str s)=>k (.d (.sl (cM (cK .u8) (lM s))))
 | _=>none
theorem aCs (x:bS):yN T d (.bytes x) fr bl k kw = dL fr x fun a=>Y2 a k:=by
 unfold yN dL
 simp only [b7]
 generalize bH (lk fr .any) x = v
 cases v with
 | d x=>cases x with
  | str s =>
   have:(s.data.toList.map fun b=>[D.int .u8 (b.toNat:Int)]) = cM (cK .u8) (lM s):=by
    simp only [cM,lM,List.map_map]
    rfl
   simp only [Y2,this]
  | _=>rfl
 | _=>rfl
theorem aEh (s:ByteArray):Y2 (.d (.str s)) k = k (.d (.sl (cM (cK .u8) (lM s)))):=rfl
def LF (v:V) (bl:List (Nat × Option aH)) (k:List (List D)->Option β):Option β:=(kR (lk bl none) v).bind k
def FM (ver:Nat) (b:Option aH) (k:List (List D)->Option β):Option β:=(aEF ver b).bind k
theorem aG9 (rows:List (List D)) (k:List (List D)->Option β):LF (.d (.sl rows)) bl k = k rows:=rfl
theorem R5 (id ver:Nat) (k:List (List D)->Option β):LF (.own id ver) bl k = cV bl id fun b=>FM ver b k:=by
 unfold LF cV FM
 simp only [kR]
 generalize lk bl none id = b
 cases b with
 | none=>rfl
 | some b=>cases b <;> rfl
theorem N4 (v e s:Nat) (rows:List (List D)) (k:List (List D)->Option β):FM v (some (.rows v e s rows)) k = k rows:=by simp [FM,aEF]
theorem XB (v:Nat) (rows:List (List D)) (k:List (List D)->Option β):FM v (some (.froz v rows)) k = k rows:=by simp [FM,aEF]
theorem aJn (x:bS):yN T d (.len x) fr bl k kw = dL fr x fun a=>LF a bl fun rows=>k (.d (.int .i64 rows.length)):=by
 unfold yN dL LF
 simp only [b7]
 cases kR (lk bl none) (bH (lk fr .any) x) <;> rfl
def aJ5 (v:V) (k:V->Option β):Option β:=match v with
 | .d (.str s)=>k (.d (.int .i64 s.size))
 | _=>none
theorem aEj (x:bS):yN T d (.lenS x) fr bl k kw = dL fr x fun a=>aJ5 a k:=by
 unfold yN dL
 simp only [b7]
 generalize bH (lk fr .any) x = v
 cases v with
 | d x=>cases x <;> rfl
 | _=>rfl
theorem aHo (s:ByteArray):aJ5 (.d (.str s)) k = k (.d (.int .i64 s.size)):=rfl
def TS (off size:Nat) (isAgg:Bool) (v:V) (k:V->Option β):Option β:=match v with
 | .agg cs=>if isAgg = true then IV cs off size fun l=>k (.agg l) else AN cs off k
 | _=>none
theorem aB1 (off size:Nat) (isAgg:Bool) (x:bS):yN T d (.field off size isAgg x) fr bl k kw = dL fr x fun v=>TS off size isAgg v k:=by
 unfold yN dL
 simp only [b7]
 generalize bH (lk fr .any) x = v
 cases v with
 | agg cs =>
  cases isAgg with
  | true =>
   simp only [TS,IV,if_true]
   by_cases h:off + size <= cs.length
   ·rw [if_pos h,if_pos h]
   ·rw [if_neg h,if_neg h]
  | false=>simp only [TS,K4,Bool.false_eq_true,if_false]; cases cs[off]? <;> rfl
 | _=>rfl
theorem aCc (off size:Nat) (ds:List D):TS off size false (jQ ds) k = dM ds off fun x=>k (.d x):=by
 show AN (aR ds) off k = _
 rw [aBs]
def rH (ds:List D) (n:Nat) (x:Option β):Option β:=if ds.length = n then x else none
def aG5 (size:Nat) (x i:V) (bl:List (Nat × Option aH)) (k:V->Option β):Option β:=KG (UL size x i (lk bl none)) k fun _ _=>none
theorem aC5 {size:Nat} {x i:V} {b:Nat->Option aH} {kw' : V->List (Nat × Option aH)->Option β}:KG (UL size x i b) k kw = KG (UL size x i b) k kw':=by
 have:∀ r,UL size x i b = some r->r.2 = []:=by
  intro r
  unfold UL
  intro e
  repeat' split at e
  all_goals first | cases e; rfl | cases e
 cases h:UL size x i b with
 | none=>rfl
 | some r=>obtain ⟨v,wr⟩:=r; have:=this _ h; dsimp only at this; subst this; rfl
theorem RO (size:Nat) (x i:bS):yN T d (.indexAddr size x i) fr bl k kw = dL fr x fun a=>dL fr i fun b=>aG5 size a b bl k:=by
 rw [rK,RT]
 unfold dL aG5
 exact aC5
theorem aJS {α:Type} (size:Nat) (c:α->List D) (xs:List α) (kd:IntKind) (n:Int):aG5 size (.d (.sl (cM c xs))) (.d (.int kd n)) bl k = (at? xs n).bind fun x=>rH (c x) size (k (.d (.ptr (c x) 0))):=by
 unfold aG5
 rw [GU,aJr]
 rfl
def aGy (size id ver:Nat) (n:Int) (b:Option aH) (k:V->Option β):Option β:=KG (aLl size id ver n b) k fun _ _=>none
theorem aE1 (size id ver:Nat) (kd:IntKind) (n:Int):aG5 size (.own id ver) (.d (.int kd n)) bl k = cV bl id fun b=>aGy size id ver n b k:=rfl
theorem ZN {α:Type} (size id v e:Nat) (n:Int) (c:α->List D) (xs:List α):aGy size id v n (some (.rows v e size (cM c xs))) k = if 0 <= n ∧ n.toNat < xs.length then k (.orow id v n.toNat 0) else none:=by
 unfold aGy
 rw [GU,aC2,if_pos rfl,if_pos rfl,D0]
def aJL (fr:List (Nat × V)) (o:Option bS) (k:Option V->Option β):Option β:=match o with
 | none=>k none
 | some x=>dL fr x fun v=>k (some v)
theorem aLe (k:Option V->Option β):aJL fr none k = k none:=rfl
theorem aLp (x:bS) (k:Option V->Option β):aJL fr (some x) k = dL fr x fun v=>k (some v):=rfl
def MH (size:Nat) (x:V) (lo hi:Option V) (bl:List (Nat × Option aH)) (k:V->Option β) (kw:V->List (Nat × Option aH)->Option β):Option β:=KG (B2 (lk bl none) size x lo hi) k kw
theorem aBM (size:Nat) (x:bS) (lo hi:Option bS):yN T d (.slice size x lo hi) fr bl k kw = dL fr x fun a=>aJL fr lo fun l=>aJL fr hi fun h=>MH size a l h bl k kw:=by
 rw [rK,aCw]
 cases lo <;> cases hi <;> rfl
section
variable {α:Type} (size:Nat) (c:α->List D) (xs:List α) (hs:sized size (cM c xs) = true)
include hs
theorem aB9 {lo hi:Option V} {l h:Int} (hl:MM lo 0 = some l) (hh:MM hi (xs.length:Int) = some h):MH size (.d (.sl (cM c xs))) lo hi bl k kw = if yF xs.length l h then k (.d (.sl (cM c (lZ xs l h)))) else none:=by
 unfold MH
 rw [GU,aCn _ size c xs lo hi l h hl hh hs]
theorem aC9 (kd:IntKind) (h:Int):MH size (.d (.sl (cM c xs))) none (some (.d (.int kd h))) bl k kw = if yF xs.length 0 h then k (.d (.sl (cM c (lZ xs 0 h)))) else none:=aB9 size c xs hs rfl rfl
end
def RX (e size bytes d:Nat) (x y:V) (bl:List (Nat × Option aH)) (kw:V->List (Nat × Option aH)->Option β):Option β:=LF y bl fun new =>
 if sized size new = true then
   match x with
   | .nil=>cV bl d fun b=>lS b (if new.length * bytes <= 140737488355328 then kw (.own d 0) [(d,some (.rows 0 e size new))] else none)
   | .own id ver=>cV bl id fun b=>match b with
    | some (.rows v e' size' rows)=>if ver = v ∧ e' = e ∧ size' = size ∧ (rows.length + new.length) * bytes <= 140737488355328 then kw (.own id (ver + 1)) [(id,some (.rows (ver + 1) e size (rows ++ new)))] else none
    | _=>none
   | _=>none
   else none
theorem YT (e size bytes:Nat) (x y:bS):yN T d (.append e size bytes x y) fr bl k kw = dL fr x fun a=>dL fr y fun b=>RX e size bytes d a b bl kw:=by
 unfold yN dL RX LF cV lS
 simp only [b7]
 generalize bH (lk fr .any) x = v
 cases kR (lk bl none) (bH (lk fr .any) y) with
 | none=>rfl
 | some new =>
  simp only [Option.bind_some]
  by_cases hs:sized size new = true
  ·rw [if_pos hs,if_pos hs]
   cases v with
   | nil =>
    simp only
    cases lk bl none d with
    | none =>
     simp only
     by_cases h:new.length * bytes <= 140737488355328
     ·rw [if_pos h,if_pos h]
     ·rw [if_neg h,if_neg h]
    | some b=>rfl
   | own id ver =>
    simp only
    generalize lk bl none id = b
    cases b with
    | none=>rfl
    | some b=>cases b with
     | rows v e' size' rows =>
      simp only
      by_cases h:ver = v ∧ e' = e ∧ size' = size ∧ (rows.length + new.length) * bytes <= 140737488355328
      ·rw [if_pos h,if_pos h]
      ·rw [if_neg h,if_neg h]
     | _=>rfl
   | _=>rfl
  ·rw [if_neg hs,if_neg hs]
def VX {α:Type} (e size bytes d:Nat) (x:V) (c:α->List D) (ys:List α) (bl:List (Nat × Option aH)) (kw:V->List (Nat × Option aH)->Option β):Option β:=match x with
   | .nil=>cV bl d fun b=>lS b (if ys.length * bytes <= 140737488355328 then kw (.own d 0) [(d,some (.rows 0 e size (cM c ys)))] else none)
   | .own id ver=>cV bl id fun b=>match b with
    | some (.rows v e' size' rows)=>if ver = v ∧ e' = e ∧ size' = size ∧ (rows.length + ys.length) * bytes <= 140737488355328 then kw (.own id (ver + 1)) [(id,some (.rows (ver + 1) e size (rows ++ cM c ys)))] else none
    | _=>none
   | _=>none
theorem aDP {α:Type} (e size bytes d:Nat) (x y:V) (c:α->List D) (ys:List α) (hy:∀ k' : List (List D)->Option β,LF y bl k' = k' (cM c ys)) (hs:sized size (cM c ys) = true):RX e size bytes d x y bl kw = VX e size bytes d x c ys bl kw:=by
 unfold RX VX
 rw [hy,if_pos hs,D0]
theorem aBe {α:Type} (e size bytes d:Nat) (x:V) (c:α->List D) (ys:List α) (hs:sized size (cM c ys) = true):RX e size bytes d x (.d (.sl (cM c ys))) bl kw = VX e size bytes d x c ys bl kw:=aDP e size bytes d x _ c ys (fun _=>rfl) hs
def aFM (e size bytes d:Nat) (x:V) (ver:Nat) (b:Option aH) (bl:List (Nat × Option aH)) (kw:V->List (Nat × Option aH)->Option β):Option β:=FM ver b fun new=>RX e size bytes d x (.d (.sl new)) bl kw
theorem aEt (e size bytes d id ver:Nat) (x:V):RX e size bytes d x (.own id ver) bl kw = cV bl id fun b=>aFM e size bytes d x ver b bl kw:=by
 show RX e size bytes d x (.own id ver) bl kw = FM ver (lk bl none id) fun new=>RX e size bytes d x (.d (.sl new)) bl kw
 unfold RX
 rw [R5]
 rfl
theorem YU {α:Type} (e size bytes d v e' s' : Nat) (x:V) (c:α->List D) (ys:List α) (hs:sized size (cM c ys) = true):aFM e size bytes d x v (some (.rows v e' s' (cM c ys))) bl kw = VX e size bytes d x c ys bl kw:=by
 unfold aFM
 rw [N4,aBe _ _ _ _ _ _ _ hs]
def aEv {α:Type} (e size bytes id ver:Nat) (c:α->List D) (ys:List α) (b:Option aH) (kw:V->List (Nat × Option aH)->Option β):Option β:=match b with
    | some (.rows v e' size' rows)=>if ver = v ∧ e' = e ∧ size' = size ∧ (rows.length + ys.length) * bytes <= 140737488355328 then kw (.own id (ver + 1)) [(id,some (.rows (ver + 1) e size (rows ++ cM c ys)))] else none
    | _=>none
theorem aDb {α:Type} (e size bytes d id ver:Nat) (c:α->List D) (ys:List α):VX e size bytes d (.own id ver) c ys bl kw = cV bl id fun b=>aEv e size bytes id ver c ys b kw:=rfl
theorem ZD {α:Type} (e size bytes id v:Nat) (c:α->List D) (xs ys:List α):aEv e size bytes id v c ys (some (.rows v e size (cM c xs))) kw = if (xs.length + ys.length) * bytes <= 140737488355328 then kw (.own id (v + 1)) [(id,some (.rows (v + 1) e size (cM c (xs ++ ys))))] else none:=by
 simp only [aEv,true_and,D0,aBZ]
def QB (e:Nat) (rows:List (List D)) (k:List (List D)->Option β):Option β:=k rows
def QZ (v:V) (bl:List (Nat × Option aH)) (k:List D->List (Nat × Option aH)->Option β):Option β:=match aJ (j8 (lk bl none)) v.cells with
 | some row=>k row (vY (lk bl none) v)
 | none=>none
end
section
end
end
end Vm
end Go.Proofs.Ytjjcaapdaldedaa
