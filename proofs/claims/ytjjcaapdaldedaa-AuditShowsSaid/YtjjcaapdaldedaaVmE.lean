/- The small machine's code, read from the front: what is left to do stands in a continuation. Equations by which the small machine's code is read (they are named in the proofs that a program prints). The small machine, read from the front by rewriting at the head only: every value is looked up before it is used. -/
import Derived.Test.YtjjcaapdaldedaaVmD
set_option linter.unusedVariables false
set_option linter.unusedSimpArgs false
namespace Go.Proofs.Ytjjcaapdaldedaa
namespace Vm
open Go.RowKit
section
variable {β:Type}
noncomputable def eL (T:xU) (c:aZ) (s:St) (k:Ex->St->Option β):Option β:=(ev T c s).bind fun p=>k p.1 p.2
noncomputable def tK (T:xU) (l:List c9) (s:St) (k:St->Option β):Option β:=(lD (call T) l s).bind k
noncomputable def aDz (T:xU) (l:List c9) (ps:List (Nat × Nat)) (s:St) (k:St->Option β):Option β:=(gE (call T) l (some ps) s).bind k
def CA (r:ED) (k:V->List (Nat × Option aR)->Option β):Option β:=match r with
 | some (v,wr)=>k v wr
 | none=>none
def P9 (v:V) (x y:Option β):Option β:=match v with
 | .d (.bool b)=>if b = true then x else y
 | _=>none
def aC7 (k1:St->Option β) (k:Ex->St->Option β):Ex->St->Option β
 | .normal,s=>k1 s
 | e,s=>k e s
def JD (id:Nat) (k:Ex->St->Option β):Ex->St->Option β
 | .exit id',s=>if id' = id then k .normal s else k (.exit id') s
 | e,s=>k e s
def PL (m:vL) (k:Ex->St->Option β):Ex->St->Option β
 | .normal,s=>k .normal (m.app s)
 | e,s=>k e s
theorem u9 {v v' : V} {x y:Option β} (h:v = v'):P9 v x y = P9 v' x y:=by rw [h]
theorem XH (v:V) (wr:List (Nat × Option aR)) (k:V->List (Nat × Option aR)->Option β):CA (some (v,wr)) k = k v wr:=rfl
theorem RQ (b:Bool) (x y:Option β):P9 (.d (.bool b)) x y = if b = true then x else y:=rfl
variable {T:xU} {k:Ex->St->Option β}
theorem aAK (s:St):eL T .skip s k = k .normal s:=by unfold eL; rw [aDZ]; rfl
theorem aAp (id:Nat) (s:St):eL T (.exit id) s k = k (.exit id) s:=by unfold eL; rw [aC1]; rfl
theorem aEG (s:St):eL T .ret s k = k .ret s:=by unfold eL; rw [aFJ]; rfl
theorem Q9 (l:List c9) (s:St):eL T (.region l none) s k = tK T l s (k .normal):=by
 unfold eL tK
 rw [LX]
 simp only [gE]
 cases lD (call T) l s <;> rfl
theorem aBq (l:List c9) (ps:List (Nat × Nat)) (s:St):eL T (.region l (some ps)) s k = aDz T l ps s (k .normal):=by
 unfold eL aDz
 rw [LX]
 cases gE (call T) l (some ps) s <;> rfl
theorem aDR (a b:aZ) (s:St):eL T (.seq a b) s k = eL T a s (aC7 (fun s'=>eL T b s' k) k):=by
 unfold eL
 rw [aGr]
 cases ev T a s with
 | none=>rfl
 | some r =>
  obtain ⟨e,s'⟩:=r
  cases e <;> rfl
theorem aAh (c:eG) (a b:aZ) (s:St):eL T (.cond c a b) s k = P9 (dY s.get c) (eL T a s k) (eL T b s k):=by
 unfold eL
 rw [aEu]
 generalize dY s.get c = v
 cases v with
 | d x=>cases x with
  | bool b=>cases b <;> rfl
  | _=>rfl
 | _=>rfl
theorem V8 (id:Nat) (a:aZ) (s:St):eL T (.block id a) s k = eL T a s (JD id k):=by
 unfold eL
 rw [Y9]
 cases ev T a s with
 | none=>rfl
 | some r =>
  obtain ⟨e,s'⟩:=r
  cases e with
  | normal=>rfl
  | exit i =>
   simp only [Option.bind_some,JD]
   by_cases h:i = id
   ·simp [h]
   ·simp [h]
  | ret=>rfl
theorem aFb (m:vL) (a:aZ) (s:St):eL T (.pre m a) s k = eL T a (m.app s) k:=rfl
theorem aCz (m:vL) (a:aZ) (s:St):eL T (.post a m) s k = eL T a s (PL m k):=by
 unfold eL
 rw [aEH]
 cases ev T a s with
 | none=>rfl
 | some r =>
  obtain ⟨e,s'⟩:=r
  cases e <;> rfl
theorem dS {S X:Type} {step:S->Option (S ⊕ X)} {c:aZ} (enc:S->St) (out:X->Ex × St) (hout:∀ x s,out x ≠ (.normal,s))
  (h:∀ s,eL T c (enc s) (fun e s'=>some (e,s')) = eZ enc out (step s)) (s:S) :
  eL T (.loop c) (enc s) k = (gB step s).bind fun x=>k (out x).1 (out x).2:=by
 unfold eL
 rw [aBk enc out hout (fun s=>by
  have:=h s
  unfold eL at this
  rw [← this]
  cases ev T c (enc s) <;> rfl) s]
 cases gB step s <;> rfl
theorem aF0 (k1:St->Option β) (k:Ex->St->Option β) (s:St):aC7 k1 k .normal s = k1 s:=rfl
theorem aFB (k1:St->Option β) (k:Ex->St->Option β) (i:Nat) (s:St):aC7 k1 k (.exit i) s = k (.exit i) s:=rfl
theorem aGt (k1:St->Option β) (k:Ex->St->Option β) (s:St):aC7 k1 k .ret s = k .ret s:=rfl
theorem aAs (id:Nat) (k:Ex->St->Option β) (s:St):JD id k .normal s = k .normal s:=rfl
theorem aCw (id:Nat) (k:Ex->St->Option β) (i:Nat) (s:St):JD id k (.exit i) s = if i = id then k .normal s else k (.exit i) s:=rfl
theorem aBS (id:Nat) (k:Ex->St->Option β) (s:St):JD id k .ret s = k .ret s:=rfl
theorem aDh (m:vL) (k:Ex->St->Option β) (s:St):PL m k .normal s = k .normal (m.app s):=rfl
theorem aCQ (m:vL) (k:Ex->St->Option β) (i:Nat) (s:St):PL m k (.exit i) s = k (.exit i) s:=rfl
theorem aEF (m:vL) (k:Ex->St->Option β) (s:St):PL m k .ret s = k .ret s:=rfl
theorem aBO (s:St) (k:St->Option β):tK T [] s k = k s:=rfl
theorem MV (d:Option Nat) (op:iG) (st:Nat) (l:List c9) (s:St) (k:St->Option β) :
  tK T (⟨d,op,none,st⟩ :: l) s k = CA (eS (call T) st (dY s.get) s.blk op) fun v wr=>tK T l (s.put d v wr) k:=by
 unfold tK CA
 simp only [lD,vB,c9.wants]
 cases eS (call T) st (dY s.get) s.blk op with
 | none=>rfl
 | some r=>rfl
noncomputable def mF (T:xU):List c9->St->List Fp->(St->List Fp->Option β)->Option β
 | [],s,fp,k=>k s fp
 | o :: l,s,fp,k=>match jP (call T) o s with
  | some (s',p)=>mF T l s' (p :: fp) k
  | none=>none
theorem aA1 (l:List c9) (s:St) (fp:List Fp) (k:St->List Fp->Option β):mF T l s fp k = (iO (call T) l s).bind fun r=>k r.1 (r.2.reverse ++ fp):=by
 induction l generalizing s fp with
 | nil=>rfl
 | cons o l ih =>
  simp only [mF,iO]
  cases jP (call T) o s with
  | none=>rfl
  | some q =>
   obtain ⟨s',p⟩:=q
   simp only [ih]
   cases iO (call T) l s' with
   | none=>rfl
   | some r=>obtain ⟨s'',ps⟩:=r; simp
def aCU (l:List c9) (ps:List (Nat × Nat)) (k:St->Option β) (s:St) (fp:List Fp):Option β:=if F9 l fp.reverse ps = true then k s else none
theorem aDb (l:List c9) (ps:List (Nat × Nat)) (s:St) (k:St->Option β):aDz T l ps s k = mF T l s [] (aCU l ps k):=by
 rw [aA1]
 unfold aDz
 simp only [gE]
 cases iO (call T) l s with
 | none=>rfl
 | some r =>
  obtain ⟨s',fp⟩:=r
  simp only [Option.bind_some,aCU,List.append_nil,List.reverse_reverse]
  cases h:F9 l fp ps <;> simp
theorem KI (d:Option Nat) (op:iG) (st:Nat) (l:List c9) (s:St) (fp:List Fp) (k:St->List Fp->Option β) :
  mF T (⟨d,op,none,st⟩ :: l) s fp k = CA (eS (call T) st (dY s.get) s.blk op) fun v wr=>mF T l (s.put d v wr) (uN ⟨d,op,none,st⟩ s.get s.blk wr :: fp) k:=by
 unfold CA
 simp only [mF,jP,c9.wants]
 cases eS (call T) st (dY s.get) s.blk op with
 | none=>rfl
 | some r=>rfl
theorem NZ (fr:List (Nat × V)) (bl:List (Nat × Option aR)) (t:Nat):St.get ⟨fr,bl⟩ t = lk fr .any t:=rfl
theorem aAH (fr:List (Nat × V)) (bl:List (Nat × Option aR)) (i:Nat):St.blk ⟨fr,bl⟩ i = lk bl none i:=rfl
theorem aHq (live keep:List Nat) (p:Nat × Nat × Nat × Nat) (l:List (Nat × Nat × Nat × Nat)) (c:List (Nat × Nat × Nat × Nat × Nat)) (ft:List Nat) (fc:List (Nat × Nat)) (s:St):vL.app ⟨live,keep,p :: l,c,ft,fc⟩ s = vL.app ⟨live,keep,l,c,ft,fc⟩ (mkT p s):=rfl
theorem aGX (live keep:List Nat) (p:Nat × Nat × Nat × Nat × Nat) (c:List (Nat × Nat × Nat × Nat × Nat)) (ft:List Nat) (fc:List (Nat × Nat)) (s:St):vL.app ⟨live,keep,[],p :: c,ft,fc⟩ s = vL.app ⟨live,keep,[],c,ft,fc⟩ (mkC p s):=rfl
theorem aF7 (live keep:List Nat) (p:Nat × Nat) (fc:List (Nat × Nat)) (s:St):vL.app ⟨live,keep,[],[],[],p :: fc⟩ s = vL.app ⟨live,keep,[],[],[],fc⟩ (frC p s):=rfl
end
end Vm
end Go.Proofs.Ytjjcaapdaldedaa
namespace Go.Proofs.Ytjjcaapdaldedaa
namespace Vm
open Go.RowKit
def at? {α:Type} (xs:List α) (n:Int):Option α:=if 0 <= n then xs[n.toNat]? else none
def cI (n:Int):List D:=[.int .i64 n]
def cB (b:Bool):List D:=[.bool b]
def cS (s:ByteArray):List D:=[.str s]
def cK (k:IntKind) (n:Int):List D:=[.int k n]
def cD (row:List D):List D:=row
def cM {α:Type} (c:α->List D) (xs:List α):List (List D):=xs.map c
def cL {α:Type} (c:α->List D) (xs:List α):List D:=[.sl (cM c xs)]
def pD {α:Type} (xs:List α) (l h:Int):List α:=(xs.take h.toNat).drop l.toNat
def yC (n:Nat) (l h:Int):Prop:=0 <= l ∧ l <= h ∧ h.toNat <= n
instance (n:Nat) (l h:Int):Decidable (yC n l h):=inferInstanceAs (Decidable (_ ∧ _ ∧ _))
def sAt (s:ByteArray) (n:Int):Option Int:=if 0 <= n then s[n.toNat]?.map fun b=>(b.toNat:Int) else none
section
variable {β:Type} {T:xU} {site:Nat} {ev:eG->V} {bl:Nat->Option aR} (k:V->List (Nat × Option aR)->Option β)
def N4 (size:Nat) (x i:V) (bl:Nat->Option aR):ED:=match i with
  | .d (.int _ n)=>match x with
   | .own id ver=>match bl id with
    | some (.rows v e sz rows)=>if ver = v ∧ sz = size ∧ 0 <= n ∧ n.toNat < rows.length then some (.orow id ver n.toNat 0,[]) else none
    | some (.froz v rows)=>if ver = v ∧ 0 <= n then match rows[n.toNat]? with
     | some row=>if row.length = size then some (.d (.ptr row 0),[]) else none
     | none=>none
     else none
    | _=>none
   | .d (.sl rows)=>if 0 <= n then match rows[n.toNat]? with
    | some row=>if row.length = size then some (.d (.ptr row 0),[]) else none
    | none=>none
    else none
   | _=>none
  | _=>none
theorem LM (C:Nat->List D->Option D) (size:Nat) (x i:eG):eS C site ev bl (.indexAddr size x i) = N4 size (ev x) (ev i) bl:=rfl
theorem aDL {α:Type} (size:Nat) (c:α->List D) (xs:List α) (kd:IntKind) (n:Int) (bl:Nat->Option aR):CA (N4 size (.d (.sl (cM c xs))) (.d (.int kd n)) bl) k = (at? xs n).bind fun x=>if (c x).length = size then k (.d (.ptr (c x) 0)) [] else none:=by
 simp only [N4,at?,cM]
 by_cases h:0 <= n
 ·rw [if_pos h,if_pos h,List.getElem?_map]
  cases xs[n.toNat]? with
  | none=>rfl
  | some x =>
   simp only [Option.map_some,Option.bind_some]
   by_cases h2:(c x).length = size
   ·rw [if_pos h2,if_pos h2]; rfl
   ·rw [if_neg h2,if_neg h2]; rfl
 ·rw [if_neg h,if_neg h]; rfl
def aFI (size id ver:Nat) (n:Int) (b:Option aR):ED:=match b with
 | some (.rows v e sz rows)=>if ver = v ∧ sz = size ∧ 0 <= n ∧ n.toNat < rows.length then some (.orow id ver n.toNat 0,[]) else none
 | some (.froz v rows)=>if ver = v ∧ 0 <= n then match rows[n.toNat]? with
  | some row=>if row.length = size then some (.d (.ptr row 0),[]) else none
  | none=>none
  else none
 | _=>none
theorem WD (size id ver v e sz:Nat) (n:Int) (rows:List (List D)) (k:V->List (Nat × Option aR)->Option β):CA (aFI size id ver n (some (.rows v e sz rows))) k = if ver = v then (if sz = size then (if 0 <= n ∧ n.toNat < rows.length then k (.orow id ver n.toNat 0) [] else none) else none) else none:=by
 simp only [aFI]
 by_cases h1:ver = v
 ·by_cases h2:sz = size
  ·by_cases h3:0 <= n ∧ n.toNat < rows.length
   ·rw [if_pos ⟨h1,h2,h3⟩,if_pos h1,if_pos h2,if_pos h3]; rfl
   ·rw [if_neg (fun q=>h3 q.2.2),if_pos h1,if_pos h2,if_neg h3]; rfl
  ·rw [if_neg (fun q=>h2 q.2.1),if_pos h1,if_neg h2]; rfl
 ·rw [if_neg (fun q=>h1 q.1),if_neg h1]; rfl
def PI (size:Nat) (isAgg:Bool) (off:Nat) (row:List D):ED :=
 if isAgg then (if off + size <= row.length then some (.agg (((row.drop off).take size).map .d),[]) else none) else row[off]?.map fun v=>(.d v,[])
def UO (size:Nat) (isAgg:Bool) (off:Nat) (b:Option aR):ED:=match b with
 | some (.box cs) =>
  if isAgg then (if off + size <= cs.length then some (.agg ((cs.drop off).take size),[]) else none)
  else cs[off]?.map fun v=>(v,[])
 | some (.fbox row)=>PI size isAgg off row
 | _=>none
def aA0 (size:Nat) (isAgg:Bool) (ver i off:Nat) (b:Option aR):ED:=match b with
 | some (.rows v e sz rows)=>if ver = v then match rows[i]? with
  | some row=>PI size isAgg off row
  | none=>none
  else none
 | _=>none
def IR (size:Nat) (isAgg:Bool) (x:V) (bl:Nat->Option aR):ED:=match x with
 | .ptr id off=>UO size isAgg off (bl id)
 | .d (.ptr row off)=>PI size isAgg off row
 | .orow id ver i off=>aA0 size isAgg ver i off (bl id)
 | _=>none
theorem FU (C:Nat->List D->Option D) (size:Nat) (isAgg:Bool) (x:eG):eS C site ev bl (.load size isAgg x) = IR size isAgg (ev x) bl:=rfl
theorem V3 (size:Nat) (isAgg:Bool) (id off:Nat) (bl:Nat->Option aR):IR size isAgg (.ptr id off) bl = UO size isAgg off (bl id):=rfl
theorem aDP (size:Nat) (isAgg:Bool) (id ver i off:Nat) (bl:Nat->Option aR):IR size isAgg (.orow id ver i off) bl = aA0 size isAgg ver i off (bl id):=rfl
theorem aDH (size off:Nat) (cs:List V):UO size true off (some (.box cs)) = if off + size <= cs.length then some (.agg ((cs.drop off).take size),[]) else none:=rfl
theorem aC6 (size off:Nat) (cs:List V):UO size false off (some (.box cs)) = cs[off]?.map fun v=>(v,[]):=rfl
def KX (size ver i off id:Nat) (fz:List (Nat × Option aR)) (ds:Option (List D)) (b:Option aR):ED:=match b with
 | some (.rows w e sz rows)=>if ver = w then match rows[i]?,ds with
  | some row,some ds=>if ds.length = size ∧ off + size <= row.length ∧ EE id fz = true then some (.any,(id,some (.rows w e sz (rows.set i (iR row off ds)))) :: fz) else none
  | _,_=>none
  else none
 | _=>none
def S0 (size off id:Nat) (v:V) (b:Option aR):ED:=match b with
 | some (.box cs)=>if v.cells.length = size ∧ off + size <= cs.length ∧ v.known = true then some (.any,[(id,some (.box (iR cs off v.cells)))]) else none
 | _=>none
def TR (size:Nat) (x v:V) (bl:Nat->Option aR):ED:=match x with
 | .ptr id off=>S0 size off id v (bl id)
 | .orow id ver i off=>KX size ver i off id (sY bl v) (cC (jT bl) v.cells) (bl id)
 | _=>none
theorem XE (C:Nat->List D->Option D) (size:Nat) (x v:eG):eS C site ev bl (.store size x v) = TR size (ev x) (ev v) bl:=rfl
theorem aBM (size id off:Nat) (v:V) (bl:Nat->Option aR):TR size (.ptr id off) v bl = S0 size off id v (bl id):=rfl
theorem ZU (size id ver i off:Nat) (v:V) (bl:Nat->Option aR):TR size (.orow id ver i off) v bl = KX size ver i off id (sY bl v) (cC (jT bl) v.cells) (bl id):=rfl
theorem TJ (size off id:Nat) (v:V) (cs:List V):S0 size off id v (some (.box cs)) = if v.cells.length = size ∧ off + size <= cs.length ∧ v.known = true then some (.any,[(id,some (.box (iR cs off v.cells)))]) else none:=rfl
theorem V1 (C:Nat->List D->Option D) (size:Nat) (x:eG) (lo hi:Option eG):eS C site ev bl (.slice size x lo hi) = xF bl size (ev x) (lo.map ev) (hi.map ev):=rfl
def aFx (ver:Nat) (b:Option aR):Option (List (List D)):=match b with
 | some (.rows v _ _ rows)=>if ver = v then some rows else none
 | some (.froz v rows)=>if ver = v then some rows else none
 | _=>none
def HQ (v:Option V) (d:Int):Option Int:=match v with
 | none=>some d
 | some (.d (.int _ h))=>some h
 | _=>none
theorem VY {α:Type} (size:Nat) (c:α->List D) (xs:List α) (lo hi:Option V) (l h:Int) (hl:HQ lo 0 = some l) (hh:HQ hi (xs.length:Int) = some h) (hs:sized size (cM c xs) = true) (bl:Nat->Option aR):CA (xF bl size (.d (.sl (cM c xs))) lo hi) k = if yC xs.length l h then k (.d (.sl (cM c (pD xs l h)))) [] else none:=by
 have e0:∀ lo' hi',xF bl size (.d (.sl (cM c xs))) lo' hi' = (match HQ hi' ((cM c xs).length:Int),HQ lo' 0 with
   | some h,some l=>if 0 <= l ∧ l <= h ∧ h.toNat <= (cM c xs).length ∧ sized size (cM c xs) = true then some (.d (.sl (((cM c xs).take h.toNat).drop l.toNat)),[]) else none
   | _,_=>none):=fun lo' hi'=>rfl
 rw [e0,show ((cM c xs).length:Int) = (xs.length:Int) by simp [cM],hl,hh]
 simp only [show (cM c xs).length = xs.length by simp [cM]]
 by_cases q:yC xs.length l h
 ·rw [if_pos q,if_pos ⟨q.1,q.2.1,q.2.2,hs⟩]
  simp only [XH,cM,pD,List.map_drop,List.map_take]
 ·rw [if_neg q,if_neg (fun w=>q ⟨w.1,w.2.1,w.2.2.1⟩)]; rfl
def CJ (x i:V):ED:=match x,i with
  | .d (.str s),.d (.int _ n)=>if 0 <= n then match s[n.toNat]? with
   | some b=>some (.d (.int .u8 b.toNat),[])
   | none=>none
   else none
  | _,_=>none
theorem XV (C:Nat->List D->Option D) (x i:eG):eS C site ev bl (.index x i) = CJ (ev x) (ev i):=rfl
theorem aAT (s:ByteArray) (kd:IntKind) (n:Int):CA (CJ (.d (.str s)) (.d (.int kd n))) k = (sAt s n).bind fun b=>k (.d (.int .u8 b)) []:=by
 simp only [CJ,sAt]
 split
 ·cases s[n.toNat]? <;> rfl
 ·rfl
end
section
variable {S X:Type} {enc:S->St} {out:X->Ex × St}
theorem aL (c:Prop) [Decidable c] (a b:Option (S ⊕ X)):eZ enc out (if c then a else b) = if c then eZ enc out a else eZ enc out b:=by split <;> rfl
theorem aE {α:Type} (o:Option α) (f:α->Option (S ⊕ X)):eZ enc out (o.bind f) = o.bind fun x=>eZ enc out (f x):=by cases o <;> rfl
theorem aF:eZ enc out none = none:=rfl
theorem aK (s:S):eZ enc out (some (.inl s)) = some (.normal,enc s):=rfl
theorem aO (x:X):eZ enc out (some (.inr x)) = some (out x):=rfl
end
theorem i6 {α:Type} (size:Nat) (c:α->List D) (hc:∀ x,(c x).length = size) (xs:List α):sized size (cM c xs) = true:=by
 simp [sized,cM,hc]
theorem aX (xs:List Int):sized 1 (cM cI xs) = true:=i6 _ _ (fun x=>by rfl) xs
theorem aW (k:IntKind) (xs:List Int):sized 1 (cM (cK k) xs) = true:=i6 _ _ (fun x=>by rfl) xs
theorem aS (xs:List Bool):sized 1 (cM cB xs) = true:=i6 _ _ (fun x=>by rfl) xs
theorem aV (xs:List ByteArray):sized 1 (cM cS xs) = true:=i6 _ _ (fun x=>by rfl) xs
theorem aY {α:Type} (c:α->List D) (xs:List (List α)):sized 1 (cM (cL c) xs) = true:=i6 _ _ (fun x=>by rfl) xs
theorem aI {α:Type} (c:α->List D) (xs:List α):(cM c xs).length = xs.length:=by simp [cM]
theorem WX {α:Type} (c:α->List D) (xs ys:List α):cM c xs ++ cM c ys = cM c (xs ++ ys):=by simp [cM]
theorem aGd {α:Type} (c:α->List D) (xs:List α) (i:Nat) (x:α):cM c (xs.set i x) = (cM c xs).set i (c x):=by simp [cM,List.map_set]
theorem aT {α γ:Type} (c:Prop) [Decidable c] (a b:Option α) (f:α->Option γ):(if c then a else b).bind f = if c then a.bind f else b.bind f:=by split <;> rfl
theorem bW {α γ:Type} (c:Prop) [Decidable c] (a b:Option α) (f:α->γ):(if c then a else b).map f = if c then a.map f else b.map f:=by split <;> rfl
theorem bind_map {α γ δ:Type} (o:Option α) (f:α->Option γ) (g:γ->δ):(o.bind f).map g = o.bind fun x=>(f x).map g:=by cases o <;> rfl
theorem aJ {α γ:Type} (f:α->Option γ):(none:Option α).bind f = none:=rfl
theorem aP {α γ δ ε:Type} (f:α->Option δ) (g:γ->Option δ) (x:α ⊕ γ) (h:δ->Option ε):(Sum.elim f g x).bind h = Sum.elim (fun y=>(f y).bind h) (fun y=>(g y).bind h) x:=by cases x <;> rfl
theorem aU {α γ δ ε:Type} (f:α->Option δ) (g:γ->Option δ) (x:α ⊕ γ) (h:δ->ε):(Sum.elim f g x).map h = Sum.elim (fun y=>(f y).map h) (fun y=>(g y).map h) x:=by cases x <;> rfl
def gIf {α:Type} (b:Bool) (x y:α):α:=if b = true then x else y
theorem cN {α:Type} (b:Bool) (x y:α):gIf b x y = if b = true then x else y:=rfl
theorem aG {S X α γ:Type} {enc:S->St} {out:X->Ex × St} (f:α->Option (S ⊕ X)) (g:γ->Option (S ⊕ X)) (x:α ⊕ γ):eZ enc out (Sum.elim f g x) = Sum.elim (fun y=>eZ enc out (f y)) (fun y=>eZ enc out (g y)) x:=by cases x <;> rfl
def aIu (sf:fL):Ex->St->Option D
 | .normal,s=>CG sf s
 | .ret,s=>CG sf s
 | .exit _,_=>none
theorem ZL {T:xU} {f:Nat} {sf:fL} (hf:T f = some (.code sf)) (ds:List D) (hl:ds.length = sf.np) (hlt:kP 0 ds = none):Vm.call T f ds = eL T sf.body ⟨oS 0 ds,[]⟩ (aIu sf):=by
 rw [aFi hf ds hl hlt]
 unfold eL
 cases Vm.ev T sf.body ⟨oS 0 ds,[]⟩ with
 | none=>rfl
 | some q =>
  obtain ⟨e,s⟩:=q
  cases e <;> rfl
theorem cZ {α β:Type} (o:Option α) {f g:α->Option β} (h:∀ x,f x = g x):o.bind f = o.bind g:=by rw [funext h]
end Vm
end Go.Proofs.Ytjjcaapdaldedaa
namespace Go.Proofs.Ytjjcaapdaldedaa
namespace Vm
open Go.RowKit
section
variable {β:Type}
def vO (fr:List (Nat × V)) (t:Nat) (k:V->Option β):Option β:=k (lk fr .any t)
def e8 (bl:List (Nat × Option aR)) (i:Nat) (k:Option aR->Option β):Option β:=k (lk bl none i)
def fB (fr:List (Nat × V)) (o:eG) (k:V->Option β):Option β:=k (dY (lk fr .any) o)
theorem aAm (t:Nat) (v:V) (fr:List (Nat × V)) (k:V->Option β):vO ((t,v) :: fr) t k = k v:=by simp [vO,lk]
theorem WA (a t:Nat) (v:V) (fr:List (Nat × V)) (k:V->Option β) (h:(t == a) = false):vO ((a,v) :: fr) t k = vO fr t k:=by
 have:¬ t = a:=by simpa using h
 simp [vO,lk,this]
theorem ZV (t:Nat) (v:Option aR) (fr:List (Nat × Option aR)) (k:Option aR->Option β):e8 ((t,v) :: fr) t k = k v:=by simp [e8,lk]
theorem X6 (a t:Nat) (v:Option aR) (fr:List (Nat × Option aR)) (k:Option aR->Option β) (h:(t == a) = false):e8 ((a,v) :: fr) t k = e8 fr t k:=by
 have:¬ t = a:=by simpa using h
 simp [e8,lk,this]
theorem aBf (t:Nat) (k:Option aR->Option β):e8 [] t k = k none:=rfl
theorem aD8 (bl:List (Nat × Option aR)) (t:Nat) (k:Option aR->Option β):e8 ([] ++ bl) t k = e8 bl t k:=rfl
theorem aCJ (p:Nat × Option aR) (w bl:List (Nat × Option aR)) (t:Nat) (k:Option aR->Option β):e8 ((p :: w) ++ bl) t k = e8 (p :: (w ++ bl)) t k:=rfl
theorem aGx (fr:List (Nat × V)) (t:Nat) (k:V->Option β):fB fr (.t t) k = vO fr t k:=rfl
theorem aGT (fr:List (Nat × V)) (v:V) (k:V->Option β):fB fr (.c v) k = k v:=rfl
def aD (ds:List D):List V:=ds.map .d
def iS (ds:List D):V:=.agg (aD ds)
noncomputable def uB (T:xU) (d:Nat) (op:iG) (fr:List (Nat × V)) (bl:List (Nat × Option aR)) (k:V->Option β) (kw:V->List (Nat × Option aR)->Option β):Option β :=
 match eS (call T) d (dY (lk fr .any)) (lk bl none) op with
 | none=>none
 | some (v,[])=>k v
 | some (v,p :: wr)=>kw v (p :: wr)
theorem WS {T:xU} (d st:Nat) (op:iG) (l:List c9) (fr:List (Nat × V)) (bl:List (Nat × Option aR)) (k:St->Option β) :
  tK T (⟨some d,op,none,st⟩ :: l) ⟨fr,bl⟩ k = uB T st op fr bl (fun v=>tK T l ⟨(d,v) :: fr,bl⟩ k) (fun v wr=>tK T l ⟨(d,v) :: fr,wr ++ bl⟩ k):=by
 rw [MV]
 unfold uB CA
 show (match eS (call T) st (dY (lk fr .any)) (lk bl none) op with | some (v,wr)=>_ | none=>none) = _
 cases eS (call T) st (dY (lk fr .any)) (lk bl none) op with
 | none=>rfl
 | some r=>obtain ⟨v,wr⟩:=r; cases wr <;> rfl
theorem RK {T:xU} (st:Nat) (op:iG) (l:List c9) (fr:List (Nat × V)) (bl:List (Nat × Option aR)) (k:St->Option β) :
  tK T (⟨none,op,none,st⟩ :: l) ⟨fr,bl⟩ k = uB T st op fr bl (fun _=>tK T l ⟨fr,bl⟩ k) (fun _ wr=>tK T l ⟨fr,wr ++ bl⟩ k):=by
 rw [MV]
 unfold uB CA
 show (match eS (call T) st (dY (lk fr .any)) (lk bl none) op with | some (v,wr)=>_ | none=>none) = _
 cases eS (call T) st (dY (lk fr .any)) (lk bl none) op with
 | none=>rfl
 | some r=>obtain ⟨v,wr⟩:=r; cases wr <;> rfl
def dE (t:Nat) (b:Bool) (op:iG):iG:=match op with
 | .pick (.t t') x y=>if t' = t then .move (if b then x else y) else op
 | op=>op
def dF (t:Nat) (b:Bool) (o:c9):c9:=match o.guard with
 | some (t',w)=>if t' = t then (if w = b then ⟨o.dst,dE t b o.op,none,o.site⟩ else ⟨o.dst,.move (.c (.tup [])),none,o.site⟩) else ⟨o.dst,dE t b o.op,some (t',w),o.site⟩
 | none=>⟨o.dst,dE t b o.op,none,o.site⟩
def dA (t:Nat) (b:Bool):List c9->List c9
 | []=>[]
 | o :: l=>dF t b o :: (if o.dst = some t then l else dA t b l)
theorem wJ {C:Nat->List D->Option D} {site:Nat} {fr:Nat->V} {bl:Nat->Option aR} {t:Nat} {b:Bool} (h:fr t = .d (.bool b)) (op:iG):eS C site (dY fr) bl (dE t b op) = eS C site (dY fr) bl op:=by
 cases op with
 | pick c x y =>
  cases c with
  | t t' =>
   simp only [dE]
   split
   ·rename_i e
    subst e
    simp only [eS,dY,h]
    cases b <;> rfl
   ·rfl
  | c v=>rfl
 | _=>rfl
theorem XU {C:Nat->List D->Option D} {s:St} {t:Nat} {b:Bool} (h:s.get t = .d (.bool b)) (o:c9):vB C (dF t b o) s = vB C o s:=by
 obtain ⟨d,op,g,st⟩:=o
 cases g with
 | some g =>
  obtain ⟨t',w⟩:=g
  simp only [dF]
  split
  ·rename_i e
   subst e
   split
   ·rename_i e
    subst e
    simp only [vB,c9.wants,h,wJ h]
    cases w <;> rfl
   ·rename_i e
    simp only [vB,c9.wants,h,eS,dY]
    cases w <;> cases b <;> simp_all [vC]
  ·simp only [vB,c9.wants,wJ h]
 | none=>simp only [dF,vB,c9.wants,wJ h]
theorem A7 {s:St} {d:Option Nat} {v:V} {wr:List (Nat × Option aR)} {t:Nat} (h:¬ d = some t):(s.put d v wr).get t = s.get t:=by
 cases d with
 | none=>rfl
 | some a =>
  show lk ((a,v) :: s.fr) .any t = lk s.fr .any t
  have:¬ t = a:=fun e=>h (by rw [e])
  simp [lk,this]
theorem YK {C:Nat->List D->Option D} {o:c9} {s s' : St} {t:Nat} (h:¬ o.dst = some t) (e:vB C o s = some s'):s'.get t = s.get t:=by
 unfold vB at e
 split at e
 ·split at e
  ·cases e; exact A7 h
  ·cases e
 ·cases e; exact A7 h
 ·cases e
theorem G7 {C:Nat->List D->Option D} {t:Nat} {b:Bool}:∀ (l:List c9) {s:St} (h:s.get t = .d (.bool b)),lD C (dA t b l) s = lD C l s
 | [],s,h=>rfl
 | o :: l,s,h=>by
  simp only [dA,lD,XU h]
  cases e:vB C o s with
  | none=>rfl
  | some s' =>
   simp only
   split
   ·rfl
   ·rename_i hd
    exact G7 l (by rw [YK hd e]; exact h)
noncomputable def GW (T:xU) (v:V) (t:Nat) (l:List c9) (s:St) (k:St->Option β):Option β:=match v with
 | .d (.bool b)=>if b = true then tK T (dA t true l) s k else tK T (dA t false l) s k
 | .tup []=>match l with
  | o :: r=>tK T r (s.put o.dst (.tup []) []) k
  | []=>none
 | _=>none
theorem TC {T:xU} (d:Option Nat) (op:iG) (t:Nat) (w:Bool) (st:Nat) (l:List c9) (fr:List (Nat × V)) (bl:List (Nat × Option aR)) (k:St->Option β) :
  tK T (⟨d,op,some (t,w),st⟩ :: l) ⟨fr,bl⟩ k = vO fr t fun v=>GW T v t (⟨d,op,some (t,w),st⟩ :: l) ⟨fr,bl⟩ k:=by
 show _ = GW T (lk fr .any t) t _ _ k
 generalize hv:lk fr .any t = v
 have bad:∀ (q:vC v w = .bad),tK T (⟨d,op,some (t,w),st⟩ :: l) ⟨fr,bl⟩ k = none:=by
  intro q
  unfold tK
  simp only [lD,vB,c9.wants]
  rw [show (St.get ⟨fr,bl⟩ t) = v from hv,q]; rfl
 cases v with
 | d x =>
  cases x with
  | bool b =>
   simp only [GW]
   cases b with
   | true=>rw [if_pos rfl]; unfold tK; rw [G7 (t:=t) (b:=true) (s:=⟨fr,bl⟩) _ hv]
   | false=>rw [if_neg (by decide)]; unfold tK; rw [G7 (t:=t) (b:=false) (s:=⟨fr,bl⟩) _ hv]
  | _=>exact bad rfl
 | tup vs =>
  cases vs with
  | nil =>
   simp only [GW]
   unfold tK
   simp only [lD,vB,c9.wants]
   rw [show (St.get ⟨fr,bl⟩ t) = _ from hv]
   rfl
  | cons x l=>exact bad rfl
 | _=>exact bad rfl
theorem ZG {T:xU} (b:Bool) (t:Nat) (l:List c9) (s:St) (k:St->Option β):GW T (.d (.bool b)) t l s k = if b = true then tK T (dA t true l) s k else tK T (dA t false l) s k:=rfl
theorem ZM {T:xU} (t d st:Nat) (op:iG) (g:Option (Nat × Bool)) (l:List c9) (fr:List (Nat × V)) (bl:List (Nat × Option aR)) (k:St->Option β):GW T (.tup []) t (⟨some d,op,g,st⟩ :: l) ⟨fr,bl⟩ k = tK T l ⟨(d,.tup []) :: fr,bl⟩ k:=rfl
theorem xI {T:xU} {l l' : List c9} {s:St} {k:St->Option β} (h:l = l'):tK T l s k = tK T l' s k:=by rw [h]
section
variable {T:xU} {d:Nat} {fr:List (Nat × V)} {bl:List (Nat × Option aR)} {k:V->Option β} {kw:V->List (Nat × Option aR)->Option β}
def GQ (r:ED) (k:V->Option β) (kw:V->List (Nat × Option aR)->Option β):Option β:=match r with
 | none=>none
 | some (v,[])=>k v
 | some (v,p :: wr)=>kw v (p :: wr)
theorem R5 (o:Option D):GQ (ED.v o) k kw = o.bind fun x=>k (.d x):=by cases o <;> rfl
theorem ZN (x:eG):uB T d (.move x) fr bl k kw = fB fr x k:=rfl
def kW (b:Option aR) (x:Option β):Option β:=match b with
 | none=>x
 | some _=>none
theorem aFj (x:Option β):kW none x = x:=rfl
theorem W7 (z:List V):uB T d (.alloc z) fr bl k kw = e8 bl d fun b=>kW b (kw (.ptr d 0) [(d,some (.box z))]):=by
 unfold uB e8 kW
 simp only [eS]
 cases lk bl none d <;> rfl
def BQ (v:V) (k:List V->Option β):Option β:=if v.known = true then k v.cells else none
theorem ZZ (x:D) (k:List V->Option β):BQ (.d x) k = k [.d x]:=rfl
theorem S2 (cs:List V) (k:List V->Option β):BQ (.agg cs) k = k cs:=rfl
theorem QI (ds:List D) (k:List V->Option β):BQ (iS ds) k = k (aD ds):=rfl
theorem TX (i o:Nat) (k:List V->Option β):BQ (.own i o) k = k [.own i o]:=rfl
theorem aDe (x:eG):uB T d (.box x) fr bl k kw = e8 bl d fun b=>kW b (fB fr x fun v=>BQ v fun cs=>kw (.ptr d 0) [(d,some (.box cs))]):=by
 unfold uB e8 kW fB BQ
 simp only [eS]
 cases lk bl none d with
 | none =>
  simp only
  by_cases h:(dY (lk fr .any) x).known = true
  ·rw [if_pos h,if_pos h]
  ·rw [if_neg h,if_neg h]
 | some b=>rfl
def FS (fr:List (Nat × V)):List eG->(List V->Option β)->Option β
 | [],k=>k []
 | x :: l,k=>fB fr x fun v=>FS fr l fun vs=>k (v :: vs)
theorem OK (l:List eG) (k:List V->Option β):FS fr l k = k (l.map (dY (lk fr .any))):=by
 induction l generalizing k with
 | nil=>rfl
 | cons x l ih=>simp only [FS,fB,ih,List.map_cons]
theorem W6 (k:List V->Option β):FS fr [] k = k []:=rfl
theorem TP (x:eG) (l:List eG) (k:List V->Option β):FS fr (x :: l) k = fB fr x fun v=>FS fr l fun vs=>k (v :: vs):=rfl
def E1 (fr:List (Nat × V)):List (Nat × Nat × eG)->(List (Nat × Nat × V)->Option β)->Option β
 | [],k=>k []
 | (o,s,x) :: l,k=>fB fr x fun v=>E1 fr l fun vs=>k ((o,s,v) :: vs)
theorem oJ (op:iG):uB T d op fr bl k kw = GQ (eS (call T) d (dY (lk fr .any)) (lk bl none) op) k kw:=by
 unfold uB GQ
 cases eS (call T) d (dY (lk fr .any)) (lk bl none) op with
 | none=>rfl
 | some r=>obtain ⟨v,wr⟩:=r; cases wr <;> rfl
theorem C5 (r:ED):GQ r k kw = CA r fun v wr=>match wr with | []=>k v | p :: w=>kw v (p :: w):=by
 cases r with
 | none=>rfl
 | some r=>obtain ⟨v,wr⟩:=r; cases wr <;> rfl
def AJ:List V->Nat->(V->Option β)->Option β
 | [],_,_=>none
 | c :: _,0,k=>k c
 | _ :: cs,n + 1,k=>AJ cs n k
theorem FO (cs:List V) (n:Nat) (k:V->Option β):AJ cs n k = cs[n]?.bind k:=by
 induction cs generalizing n with
 | nil=>rfl
 | cons c cs ih=>cases n with
  | zero=>rfl
  | succ n=>simp only [AJ,ih,List.getElem?_cons_succ]
theorem aDC (c:V) (cs:List V) (k:V->Option β):AJ (c :: cs) 0 k = k c:=rfl
theorem aDB (c:V) (cs:List V) (n:Nat) (k:V->Option β):AJ (c :: cs) (n + 1) k = AJ cs n k:=rfl
def fK (ds:List D) (n:Nat) (k:D->Option β):Option β:=ds[n]?.bind k
def sN (ds:List D) (off size:Nat) (k:List D->Option β):Option β:=if off + size <= ds.length then k ((ds.drop off).take size) else none
def EC (cs:List V) (off size:Nat) (k:List V->Option β):Option β:=if off + size <= cs.length then k ((cs.drop off).take size) else none
theorem U2 (ds:List D) (n:Nat) (k:V->Option β):AJ (aD ds) n k = fK ds n fun x=>k (.d x):=by
 rw [FO]
 unfold aD fK
 rw [List.getElem?_map]
 cases ds[n]? <;> rfl
theorem WE (cs:List V) (n:Nat) (k:List V->Option β) (h:cs.length = n):EC cs 0 n k = k cs:=by
 subst h
 simp [EC]
theorem aCI (ds:List D) (off n:Nat) (k:List V->Option β):EC (aD ds) off n k = sN ds off n fun l=>k (aD l):=by
 unfold EC sN aD
 simp only [List.length_map,List.map_take,List.map_drop]
def CS (size:Nat) (isAgg:Bool) (off:Nat) (b:Option aR) (k:V->Option β):Option β:=match b with
 | some (.box cs)=>if isAgg = true then EC cs off size fun l=>k (.agg l) else AJ cs off k
 | some (.fbox row)=>if isAgg = true then sN row off size fun l=>k (iS l) else fK row off fun x=>k (.d x)
 | _=>none
def K3 (size:Nat) (isAgg:Bool) (ver i off:Nat) (b:Option aR) (k:V->Option β):Option β:=match b with
 | some (.rows v e sz rows)=>if ver = v then rows[i]?.bind fun row=>(if isAgg = true then sN row off size fun l=>k (iS l) else fK row off fun x=>k (.d x)) else none
 | _=>none
def xX (size:Nat) (isAgg:Bool) (x:V) (bl:List (Nat × Option aR)) (k:V->Option β):Option β:=match x with
 | .ptr id off=>e8 bl id fun b=>CS size isAgg off b k
 | .d (.ptr row off)=>if isAgg = true then sN row off size fun l=>k (iS l) else fK row off fun x=>k (.d x)
 | .orow id ver i off=>e8 bl id fun b=>K3 size isAgg ver i off b k
 | _=>none
theorem QY (size:Nat) (isAgg:Bool) (x:eG):uB T d (.load size isAgg x) fr bl k kw = fB fr x fun v=>xX size isAgg v bl k:=by
 rw [oJ,FU]
 unfold fB
 generalize dY (lk fr .any) x = v
 have hD:∀ row off,GQ (PI size isAgg off row) k kw = if isAgg = true then sN row off size fun l=>k (iS l) else fK row off fun x=>k (.d x):=by
  intro row off
  unfold PI
  cases isAgg with
  | true=>simp only [if_true,sN]; split <;> rfl
  | false=>simp only [Bool.false_eq_true,if_false,fK]; cases row[off]? <;> rfl
 cases v with
 | ptr id off =>
  rw [V3]
  simp only [xX,e8]
  generalize lk bl none id = b
  cases b with
  | none=>rfl
  | some b=>cases b with
   | box cs =>
    cases isAgg with
    | true=>simp only [aDH,CS,if_true,EC]; split <;> rfl
    | false=>simp only [aC6,CS,Bool.false_eq_true,if_false,FO]; cases cs[off]? <;> rfl
   | fbox row=>exact hD row off
   | _=>rfl
 | d x=>cases x with
  | ptr row off=>exact hD row off
  | _=>rfl
 | orow id ver i off =>
  rw [aDP]
  simp only [xX,e8]
  generalize lk bl none id = b
  cases b with
  | none=>rfl
  | some b=>cases b with
   | rows v e sz rows =>
    simp only [aA0,K3]
    split
    ·cases rows[i]? with
     | none=>rfl
     | some row=>exact hD row off
    ·rfl
   | _=>rfl
 | _=>rfl
theorem V0 (size:Nat) (isAgg:Bool) (id off:Nat):xX size isAgg (.ptr id off) bl k = e8 bl id fun b=>CS size isAgg off b k:=rfl
theorem aAc (size:Nat) (row:List D) (off:Nat):xX size true (.d (.ptr row off)) bl k = sN row off size fun l=>k (iS l):=rfl
theorem aA2 (size:Nat) (row:List D) (off:Nat):xX size false (.d (.ptr row off)) bl k = fK row off fun x=>k (.d x):=rfl
theorem aDO (size:Nat) (isAgg:Bool) (id ver i off:Nat):xX size isAgg (.orow id ver i off) bl k = e8 bl id fun b=>K3 size isAgg ver i off b k:=rfl
theorem YT (size off:Nat) (row:List D):CS size false off (some (.fbox row)) k = fK row off fun x=>k (.d x):=rfl
theorem ZH (size off:Nat) (cs:List V):CS size false off (some (.box cs)) k = AJ cs off k:=rfl
theorem aB2 (size off:Nat) (c:V) (cs:List V):CS size true off (some (.box (c :: cs))) k = EC (c :: cs) off size fun l=>k (.agg l):=rfl
theorem Y8 (size off:Nat) (ds:List D):CS size true off (some (.box (aD ds))) k = sN ds off size fun l=>k (iS l):=by
 show EC (aD ds) off size (fun l=>k (.agg l)) = _
 rw [aCI]; rfl
theorem PV {α:Type} (size:Nat) (isAgg:Bool) (v i off e sz:Nat) (c:α->List D) (xs:List α):K3 size isAgg v i off (some (.rows v e sz (cM c xs))) k = xs[i]?.bind fun x=>xX size isAgg (.d (.ptr (c x) off)) [] k:=by
 simp only [K3,if_true,cM,List.getElem?_map]
 cases xs[i]? <;> rfl
def wX:List V->Nat->V->(List V->Option β)->Option β
 | [],_,_,_=>none
 | _ :: cs,0,v,k=>k (v :: cs)
 | c :: cs,n + 1,v,k=>wX cs n v fun l=>k (c :: l)
theorem OS (cs:List V) (n:Nat) (v:V) (k:List V->Option β):wX cs n v k = if n + 1 <= cs.length then k (iR cs n [v]) else none:=by
 induction cs generalizing n k with
 | nil=>rfl
 | cons c cs ih=>cases n with
  | zero=>rw [if_pos (by simp)]; cases cs <;> rfl
  | succ n =>
   simp only [wX,ih,iR,List.length_cons]
   by_cases h:n + 1 <= cs.length
   ·rw [if_pos h,if_pos (by omega)]
   ·rw [if_neg h,if_neg (by omega)]
theorem aCG (c:V) (cs:List V) (v:V) (k:List V->Option β):wX (c :: cs) 0 v k = k (v :: cs):=rfl
theorem aE4 (c:V) (cs:List V) (n:Nat) (v:V) (k:List V->Option β):wX (c :: cs) (n + 1) v k = wX cs n v fun l=>k (c :: l):=rfl
def uG (cs:List V) (off:Nat) (ws:List V) (k:List V->Option β):Option β:=if off + ws.length <= cs.length then k (iR cs off ws) else none
theorem MJ {α:Type} (l:List α) (n:Nat):iR l n [] = l:=by cases l <;> rfl
theorem QO (c:V) (cs:List V) (off:Nat) (ws:List V) (k:List V->Option β) (hw:ws ≠ []):uG (c :: cs) (off + 1) ws k = uG cs off ws fun l=>k (c :: l):=by
 unfold uG
 cases ws with
 | nil=>exact absurd rfl hw
 | cons w ws =>
  simp only [List.length_cons,iR]
  by_cases h:off + (ws.length + 1) <= cs.length
  ·rw [if_pos h,if_pos (by omega)]
  ·rw [if_neg h,if_neg (by omega)]
theorem RD (c:V) (cs:List V) (w:V) (ws:List V) (k:List V->Option β):uG (c :: cs) 0 (w :: ws) k = uG cs 0 ws fun l=>k (w :: l):=by
 unfold uG
 simp only [List.length_cons,iR]
 by_cases h:0 + ws.length <= cs.length
 ·rw [if_pos h,if_pos (by omega)]
 ·rw [if_neg h,if_neg (by omega)]
theorem RG (cs:List V) (k:List V->Option β):uG cs 0 [] k = k cs:=by simp [uG,MJ]
def gD (size off id:Nat) (v:V) (b:Option aR) (kw:V->List (Nat × Option aR)->Option β):Option β:=match b with
 | some (.box cs)=>if v.cells.length = size ∧ off + size <= cs.length ∧ v.known = true then kw .any [(id,some (.box (iR cs off v.cells)))] else none
 | _=>none
def F8 (size ver i off id:Nat) (v:V) (bl:List (Nat × Option aR)) (b:Option aR) (kw:V->List (Nat × Option aR)->Option β):Option β:=CA (KX size ver i off id (sY (lk bl none) v) (cC (jT (lk bl none)) v.cells) b) kw
def JJ (size:Nat) (p v:V) (bl:List (Nat × Option aR)) (kw:V->List (Nat × Option aR)->Option β):Option β:=match p with
 | .ptr id off=>e8 bl id fun b=>gD size off id v b kw
 | .orow id ver i off=>e8 bl id fun b=>F8 size ver i off id v bl b kw
 | _=>none
theorem XY (size:Nat) (x v:eG):uB T d (.store size x v) fr bl k kw = fB fr x fun p=>fB fr v fun w=>JJ size p w bl kw:=by
 rw [oJ,XE]
 unfold fB
 generalize dY (lk fr .any) x = p
 generalize dY (lk fr .any) v = w
 cases p with
 | ptr id off =>
  rw [aBM]
  simp only [JJ,e8]
  generalize lk bl none id = b
  cases b with
  | none=>rfl
  | some b=>cases b with
   | box cs =>
    simp only [TJ,gD]
    by_cases h:w.cells.length = size ∧ off + size <= cs.length ∧ w.known = true
    ·rw [if_pos h,if_pos h]; rfl
    ·rw [if_neg h,if_neg h]; rfl
   | _=>rfl
 | orow id ver i off =>
  rw [ZU]
  simp only [JJ,e8,F8]
  rw [C5]
  generalize lk bl none id = b
  cases b with
  | none=>rfl
  | some b=>cases b with
   | rows v e sz rows =>
    simp only [KX]
    by_cases h:ver = v
    ·rw [if_pos h]
     cases rows[i]? with
     | none=>rfl
     | some row =>
      cases cC (jT (lk bl none)) w.cells with
      | none=>rfl
      | some ds =>
       simp only
       split <;> rfl
    ·rw [if_neg h]; rfl
   | _=>rfl
 | _=>rfl
theorem aAb (size id off:Nat) (v:V):JJ size (.ptr id off) v bl kw = e8 bl id fun b=>gD size off id v b kw:=rfl
theorem aAu (size id ver i off:Nat) (v:V):JJ size (.orow id ver i off) v bl kw = e8 bl id fun b=>F8 size ver i off id v bl b kw:=rfl
theorem C6 (off id:Nat) (w c:V) (cs:List V) (hw:w.one = true) (hk:w.known = true):gD 1 off id w (some (.box (c :: cs))) kw = wX (c :: cs) off w fun l=>kw .any [(id,some (.box l))]:=by
 have hc:w.cells = [w]:=by cases w <;> first | rfl | cases hw
 rw [OS]
 simp only [gD,hc,hk]
 by_cases h:off + 1 <= (c :: cs).length
 ·rw [if_pos h,if_pos ⟨rfl,h,trivial⟩]
 ·rw [if_neg h,if_neg (fun q=>h q.2.1)]
theorem VX (off id:Nat) (x:D) (c:V) (cs:List V):gD 1 off id (.d x) (some (.box (c :: cs))) kw = wX (c :: cs) off (.d x) fun l=>kw .any [(id,some (.box l))]:=C6 off id _ c cs rfl rfl
theorem PZ (off id i v:Nat) (c:V) (cs:List V):gD 1 off id (.own i v) (some (.box (c :: cs))) kw = wX (c :: cs) off (.own i v) fun l=>kw .any [(id,some (.box l))]:=C6 off id _ c cs rfl rfl
theorem OW (off id i v:Nat) (c:V) (cs:List V):gD 1 off id (.ptr i v) (some (.box (c :: cs))) kw = wX (c :: cs) off (.ptr i v) fun l=>kw .any [(id,some (.box l))]:=C6 off id _ c cs rfl rfl
def GM (cs:List V) (n:Nat) (x:Option β):Option β:=if cs.length = n then x else none
theorem aEB (x:Option β):GM [] 0 x = x:=rfl
theorem aDA (c:V) (cs:List V) (n:Nat) (x:Option β):GM (c :: cs) (n + 1) x = GM cs n x:=by
 unfold GM
 simp only [List.length_cons]
 by_cases h:cs.length = n
 ·rw [if_pos h,if_pos (by omega)]
 ·rw [if_neg h,if_neg (by omega)]
theorem PQ (size off id:Nat) (ws:List V) (c:V) (cs:List V):gD size off id (.agg ws) (some (.box (c :: cs))) kw = GM ws size (uG (c :: cs) off ws fun l=>kw .any [(id,some (.box l))]):=by
 unfold GM uG
 show (if ws.length = size ∧ off + size <= (c :: cs).length ∧ V.known (.agg ws) = true then kw .any [(id,some (.box (iR (c :: cs) off ws)))] else none) = _
 by_cases h:ws.length = size
 ·subst h
  rw [if_pos rfl]
  by_cases h:off + ws.length <= (c :: cs).length
  ·rw [if_pos h,if_pos ⟨rfl,h,rfl⟩]
  ·rw [if_neg h,if_neg (fun q=>h q.2.1)]
 ·rw [if_neg h,if_neg (fun q=>h q.1)]
theorem ME {α:Type}:∀ (l m:List α),l.length = m.length->iR l 0 m = m
 | [],[],_=>rfl
 | _ :: l,x :: m,h=>by
  simp only [iR]
  rw [ME l m (by simpa using h)]
 | [],_ :: _,h=>by simp at h
 | _ :: _,[],h=>by simp at h
theorem gR (n id:Nat) (ds:List D) (hd:ds.length = n) (cs:List V) (hc:cs.length = n):gD n 0 id (iS ds) (some (.box cs)) kw = kw .any [(id,some (.box (aD ds)))]:=by
 have e:(aD ds).length = n:=by rw [← hd]; simp [aD]
 show (if (aD ds).length = n ∧ 0 + n <= cs.length ∧ V.known (iS ds) = true then kw .any [(id,some (.box (iR cs 0 (aD ds))))] else none) = _
 rw [if_pos ⟨e,by omega,rfl⟩,ME _ _ (by rw [hc,e])]
def aGP (v:V) (bl:List (Nat × Option aR)) (k:V->Option β):Option β:=match v with
 | .ptr id off=>k (.ptr id off)
 | .d (.ptr row off)=>k (.d (.ptr row off))
 | .orow id ver i off=>e8 bl id fun b=>match b with
  | some (.rows v _ _ _)=>if ver = v then k (.orow id ver i off) else none
  | _=>none
 | _=>none
theorem N8 (x:eG):uB T d (.nilCheck x) fr bl k kw = fB fr x fun v=>aGP v bl k:=by
 unfold uB fB
 simp only [eS]
 generalize dY (lk fr .any) x = v
 cases v with
 | d x=>cases x <;> rfl
 | orow id ver i off =>
  simp only [aGP,e8]
  generalize lk bl none id = b
  cases b with
  | none=>rfl
  | some b=>cases b with
   | rows v e s rows=>simp only; by_cases h:ver = v <;> simp [h]
   | _=>rfl
 | _=>rfl
def OJ (id ver i off:Nat) (b:Option aR) (k:V->Option β):Option β:=match b with
 | some (.rows v _ _ _)=>if ver = v then k (.orow id ver i off) else none
 | _=>none
theorem aDV (id ver i off e s:Nat) (rows:List (List D)):OJ id ver i off (some (.rows ver e s rows)) k = k (.orow id ver i off):=if_pos rfl
def faK (off:Nat) (v:V) (bl:List (Nat × Option aR)) (k:V->Option β):Option β:=match v with
 | .ptr id o=>k (.ptr id (o + off))
 | .d (.ptr row o)=>k (.d (.ptr row (o + off)))
 | .orow id ver i o=>e8 bl id fun b=>OJ id ver i (o + off) b k
 | _=>none
theorem LP (off:Nat) (x:eG):uB T d (.fieldAddr off x) fr bl k kw = fB fr x fun v=>faK off v bl k:=by
 unfold uB fB
 simp only [eS]
 generalize dY (lk fr .any) x = v
 cases v with
 | d x=>cases x <;> rfl
 | orow id ver i o =>
  simp only [faK,e8]
  generalize lk bl none id = b
  cases b with
  | none=>rfl
  | some b=>cases b with
   | rows v e s rows=>simp only [OJ]; by_cases h:ver = v <;> simp [h]
   | _=>rfl
 | _=>rfl
theorem aG8 (off id o:Nat):faK off (.ptr id o) bl k = k (.ptr id (o + off)):=rfl
theorem aH1 (off:Nat) (row:List D) (o:Nat):faK off (.d (.ptr row o)) bl k = k (.d (.ptr row (o + off))):=rfl
theorem aHs (off id ver i o:Nat):faK off (.orow id ver i o) bl k = e8 bl id fun b=>OJ id ver i (o + off) b k:=rfl
def vI (c:Nat) (op:BinOp) (a b:V) (k:V->Option β):Option β:=(AA c op a b).bind fun x=>k (.d x)
theorem aCF (c:Nat) (op:BinOp) (x y:eG):uB T d (.bin c op x y) fr bl k kw = fB fr x fun a=>fB fr y fun b=>vI c op a b k:=by
 rw [oJ]
 exact R5 _
section
variable (kd:IntKind) (x y:Int)
theorem aBC:vI 0 .add (.d (.int kd x)) (.d (.int kd y)) k = k (.d (.int kd (IntKind.wrap kd (x + y)))):=by simp [vI,AA,rH]
theorem aBL:vI 0 .sub (.d (.int kd x)) (.d (.int kd y)) k = k (.d (.int kd (IntKind.wrap kd (x - y)))):=by simp [vI,AA,rH]
theorem aAL:vI 0 .mul (.d (.int kd x)) (.d (.int kd y)) k = k (.d (.int kd (IntKind.wrap kd (x * y)))):=by simp [vI,AA,rH]
theorem aAz:vI 0 .quo (.d (.int kd x)) (.d (.int kd y)) k = if y = 0 then none else k (.d (.int kd (IntKind.wrap kd (x.tdiv y)))):=by
 simp only [vI,AA,rH,if_true]; split <;> rfl
theorem Z3:vI 0 .rem (.d (.int kd x)) (.d (.int kd y)) k = if y = 0 then none else k (.d (.int kd (x.tmod y))):=by
 simp only [vI,AA,rH,if_true]; split <;> rfl
theorem aBU:vI 0 .eql (.d (.int kd x)) (.d (.int kd y)) k = k (.d (.bool (x == y))):=by simp [vI,AA,rH]
theorem aBT:vI 0 .neq (.d (.int kd x)) (.d (.int kd y)) k = k (.d (.bool (x != y))):=by simp [vI,AA,rH]
theorem aBx:vI 0 .lss (.d (.int kd x)) (.d (.int kd y)) k = k (.d (.bool (decide (x < y)))):=by simp [vI,AA,rH]
theorem ZF:vI 0 .leq (.d (.int kd x)) (.d (.int kd y)) k = k (.d (.bool (decide (x <= y)))):=by simp [vI,AA,rH]
theorem ZY:vI 0 .gtr (.d (.int kd x)) (.d (.int kd y)) k = k (.d (.bool (decide (x > y)))):=by simp [vI,AA,rH]
theorem aCe:vI 0 .geq (.d (.int kd x)) (.d (.int kd y)) k = k (.d (.bool (decide (x ≥ y)))):=by simp [vI,AA,rH]
end
section
variable (x y:ByteArray)
theorem X5:vI 0 .eql (.d (.str x)) (.d (.str y)) k = k (.d (.bool (x.toList == y.toList))):=rfl
end
theorem WZ (x y:Bool):vI 1 .eql (.d (.bool x)) (.d (.bool y)) k = k (.d (.bool (x == y))):=rfl
def aBh (o:Option D) (k:V->Option β):Option β:=o.bind fun x=>k (.d x)
theorem wQ {o o' : Option D} {k:V->Option β} (h:o = o'):aBh o k = aBh o' k:=by rw [h]
section
variable {k:V->Option β}
end
section
variable {k:Bool->Option β}
end
def aAY (kd:IntKind) (x:Int):List V->(V->Option β)->Option β:=fun l k=>aBh (T6 kd x l) k
def aFu (l:List V) (k:V->Option β):Option β:=aBh (aEh l) k
theorem aDa (l:List eG):uB T d (.max l) fr bl k kw = FS fr l fun vs=>aFu vs k:=by
 rw [oJ,OK]
 exact R5 _
section
variable {k:V->Option β}
theorem aC0 (kd:IntKind) (x:Int) (l:List V):aFu (.d (.int kd x) :: l) k = aAY kd x l k:=rfl
theorem aCy (kd:IntKind) (x:Int):aAY kd x [] k = k (.d (.int kd x)):=rfl
theorem XM (kd:IntKind) (x y:Int) (l:List V):aAY kd x (.d (.int kd y) :: l) k = aAY kd (if y > x then y else x) l k:=by simp [aAY,T6]
end
def unK (op:UnOp) (v:V) (k:V->Option β):Option β:=aBh (unV op v) k
theorem aFR (op:UnOp) (x:eG):uB T d (.un op x) fr bl k kw = fB fr x fun a=>unK op a k:=by
 rw [oJ]
 exact R5 _
theorem aD3 (b:Bool):unK .not (.d (.bool b)) k = k (.d (.bool !b)):=rfl
def aFn (kd:IntKind) (v:V) (k:V->Option β):Option β:=match v with
 | .d (.int _ n)=>k (.d (.int kd (IntKind.wrap kd n)))
 | _=>none
theorem aAt (kd:IntKind) (x:eG):uB T d (.conv kd x) fr bl k kw = fB fr x fun a=>aFn kd a k:=by
 unfold uB fB
 simp only [eS]
 generalize dY (lk fr .any) x = v
 cases v with
 | d x=>cases x <;> rfl
 | _=>rfl
theorem aDK (kd kd' : IntKind) (n:Int):aFn kd (.d (.int kd' n)) k = k (.d (.int kd (IntKind.wrap kd n))):=rfl
def lQ (s:ByteArray):List Int:=s.data.toList.map fun b=>(b.toNat:Int)
def T0 (v:V) (k:V->Option β):Option β:=match v with
 | .d (.str s)=>k (.d (.sl (cM (cK .u8) (lQ s))))
 | _=>none
theorem WR (x:eG):uB T d (.bytes x) fr bl k kw = fB fr x fun a=>T0 a k:=by
 unfold uB fB
 simp only [eS]
 generalize dY (lk fr .any) x = v
 cases v with
 | d x=>cases x with
  | str s =>
   have:(s.data.toList.map fun b=>[D.int .u8 (b.toNat:Int)]) = cM (cK .u8) (lQ s):=by
    simp only [cM,lQ,List.map_map]
    rfl
   simp only [T0,this]
  | _=>rfl
 | _=>rfl
theorem aAJ (s:ByteArray):T0 (.d (.str s)) k = k (.d (.sl (cM (cK .u8) (lQ s)))):=rfl
def F1 (v:V) (bl:List (Nat × Option aR)) (k:List (List D)->Option β):Option β:=(j9 (lk bl none) v).bind k
def HG (ver:Nat) (b:Option aR) (k:List (List D)->Option β):Option β:=(aFx ver b).bind k
theorem aBm (rows:List (List D)) (k:List (List D)->Option β):F1 (.d (.sl rows)) bl k = k rows:=rfl
theorem MK (id ver:Nat) (k:List (List D)->Option β):F1 (.own id ver) bl k = e8 bl id fun b=>HG ver b k:=by
 unfold F1 e8 HG
 simp only [j9]
 generalize lk bl none id = b
 cases b with
 | none=>rfl
 | some b=>cases b <;> rfl
theorem H4 (v e s:Nat) (rows:List (List D)) (k:List (List D)->Option β):HG v (some (.rows v e s rows)) k = k rows:=by simp [HG,aFx]
theorem aEx (x:eG):uB T d (.len x) fr bl k kw = fB fr x fun a=>F1 a bl fun rows=>k (.d (.int .i64 rows.length)):=by
 unfold uB fB F1
 simp only [eS]
 cases j9 (lk bl none) (dY (lk fr .any) x) <;> rfl
def aFs (v:V) (k:V->Option β):Option β:=match v with
 | .d (.str s)=>k (.d (.int .i64 s.size))
 | _=>none
theorem aAq (x:eG):uB T d (.lenS x) fr bl k kw = fB fr x fun a=>aFs a k:=by
 unfold uB fB
 simp only [eS]
 generalize dY (lk fr .any) x = v
 cases v with
 | d x=>cases x <;> rfl
 | _=>rfl
theorem aEY (s:ByteArray):aFs (.d (.str s)) k = k (.d (.int .i64 s.size)):=rfl
def NH (off size:Nat) (isAgg:Bool) (v:V) (k:V->Option β):Option β:=match v with
 | .agg cs=>if isAgg = true then EC cs off size fun l=>k (.agg l) else AJ cs off k
 | _=>none
theorem X9 (off size:Nat) (isAgg:Bool) (x:eG):uB T d (.field off size isAgg x) fr bl k kw = fB fr x fun v=>NH off size isAgg v k:=by
 unfold uB fB
 simp only [eS]
 generalize dY (lk fr .any) x = v
 cases v with
 | agg cs =>
  cases isAgg with
  | true =>
   simp only [NH,EC,if_true]
   by_cases h:off + size <= cs.length
   ·rw [if_pos h,if_pos h]
   ·rw [if_neg h,if_neg h]
  | false=>simp only [NH,FO,Bool.false_eq_true,if_false]; cases cs[off]? <;> rfl
 | _=>rfl
theorem V7 (off size:Nat) (ds:List D):NH off size false (iS ds) k = fK ds off fun x=>k (.d x):=by
 show AJ (aD ds) off k = _
 rw [U2]
def qE (ds:List D) (n:Nat) (x:Option β):Option β:=if ds.length = n then x else none
def aBA (size:Nat) (x i:V) (bl:List (Nat × Option aR)) (k:V->Option β):Option β:=GQ (N4 size x i (lk bl none)) k fun _ _=>none
theorem VM {size:Nat} {x i:V} {b:Nat->Option aR} {kw' : V->List (Nat × Option aR)->Option β}:GQ (N4 size x i b) k kw = GQ (N4 size x i b) k kw':=by
 have:∀ r,N4 size x i b = some r->r.2 = []:=by
  intro r
  unfold N4
  intro e
  repeat' split at e
  all_goals first | cases e; rfl | cases e
 cases h:N4 size x i b with
 | none=>rfl
 | some r=>obtain ⟨v,wr⟩:=r; have:=this _ h; dsimp only at this; subst this; rfl
theorem K9 (size:Nat) (x i:eG):uB T d (.indexAddr size x i) fr bl k kw = fB fr x fun a=>fB fr i fun b=>aBA size a b bl k:=by
 rw [oJ,LM]
 unfold fB aBA
 exact VM
theorem aCH {α:Type} (size:Nat) (c:α->List D) (xs:List α) (kd:IntKind) (n:Int):aBA size (.d (.sl (cM c xs))) (.d (.int kd n)) bl k = (at? xs n).bind fun x=>qE (c x) size (k (.d (.ptr (c x) 0))):=by
 unfold aBA
 rw [C5,aDL]
 rfl
def aBu (size id ver:Nat) (n:Int) (b:Option aR) (k:V->Option β):Option β:=GQ (aFI size id ver n b) k fun _ _=>none
theorem aCu (size id ver:Nat) (kd:IntKind) (n:Int):aBA size (.own id ver) (.d (.int kd n)) bl k = e8 bl id fun b=>aBu size id ver n b k:=rfl
theorem SA {α:Type} (size id v e:Nat) (n:Int) (c:α->List D) (xs:List α):aBu size id v n (some (.rows v e size (cM c xs))) k = if 0 <= n ∧ n.toNat < xs.length then k (.orow id v n.toNat 0) else none:=by
 unfold aBu
 rw [C5,WD,if_pos rfl,if_pos rfl,aI]
def UB (x i:V) (k:V->Option β):Option β:=CA (CJ x i) fun v _=>k v
theorem WM (x i:eG):uB T d (.index x i) fr bl k kw = fB fr x fun a=>fB fr i fun b=>UB a b k:=by
 rw [oJ,XV]
 unfold fB UB
 generalize dY (lk fr .any) x = a
 generalize dY (lk fr .any) i = b
 have:∀ r,CJ a b = some r->r.2 = []:=by
  intro r
  unfold CJ
  intro e
  repeat' split at e
  all_goals first | cases e; rfl | cases e
 show _ = CA (CJ a b) fun v _=>k v
 cases h:CJ a b with
 | none=>rfl
 | some r=>obtain ⟨v,wr⟩:=r; have:=this _ h; dsimp only at this; subst this; rfl
theorem aFf (s:ByteArray) (kd:IntKind) (n:Int):UB (.d (.str s)) (.d (.int kd n)) k = (sAt s n).bind fun b=>k (.d (.int .u8 b)):=by
 unfold UB
 rw [aAT]
def aDp (fr:List (Nat × V)) (o:Option eG) (k:Option V->Option β):Option β:=match o with
 | none=>k none
 | some x=>fB fr x fun v=>k (some v)
theorem aFX (k:Option V->Option β):aDp fr none k = k none:=rfl
theorem aGU (x:eG) (k:Option V->Option β):aDp fr (some x) k = fB fr x fun v=>k (some v):=rfl
def HI (size:Nat) (x:V) (lo hi:Option V) (bl:List (Nat × Option aR)) (k:V->Option β) (kw:V->List (Nat × Option aR)->Option β):Option β:=GQ (xF (lk bl none) size x lo hi) k kw
theorem WU (size:Nat) (x:eG) (lo hi:Option eG):uB T d (.slice size x lo hi) fr bl k kw = fB fr x fun a=>aDp fr lo fun l=>aDp fr hi fun h=>HI size a l h bl k kw:=by
 rw [oJ,V1]
 cases lo <;> cases hi <;> rfl
section
variable {α:Type} (size:Nat) (c:α->List D) (xs:List α) (hs:sized size (cM c xs) = true)
include hs
theorem X8 {lo hi:Option V} {l h:Int} (hl:HQ lo 0 = some l) (hh:HQ hi (xs.length:Int) = some h):HI size (.d (.sl (cM c xs))) lo hi bl k kw = if yC xs.length l h then k (.d (.sl (cM c (pD xs l h)))) else none:=by
 unfold HI
 rw [C5,VY _ size c xs lo hi l h hl hh hs]
theorem X7 (kd:IntKind) (h:Int):HI size (.d (.sl (cM c xs))) none (some (.d (.int kd h))) bl k kw = if yC xs.length 0 h then k (.d (.sl (cM c (pD xs 0 h)))) else none:=X8 size c xs hs rfl rfl
end
def LB (e size bytes d:Nat) (x y:V) (bl:List (Nat × Option aR)) (kw:V->List (Nat × Option aR)->Option β):Option β:=F1 y bl fun new =>
 if sized size new = true then
   match x with
   | .nil=>e8 bl d fun b=>kW b (if new.length * bytes <= 140737488355328 then kw (.own d 0) [(d,some (.rows 0 e size new))] else none)
   | .own id ver=>e8 bl id fun b=>match b with
    | some (.rows v e' size' rows)=>if ver = v ∧ e' = e ∧ size' = size ∧ (rows.length + new.length) * bytes <= 140737488355328 then kw (.own id (ver + 1)) [(id,some (.rows (ver + 1) e size (rows ++ new)))] else none
    | _=>none
   | _=>none
   else none
theorem SX (e size bytes:Nat) (x y:eG):uB T d (.append e size bytes x y) fr bl k kw = fB fr x fun a=>fB fr y fun b=>LB e size bytes d a b bl kw:=by
 unfold uB fB LB F1 e8 kW
 simp only [eS]
 generalize dY (lk fr .any) x = v
 cases j9 (lk bl none) (dY (lk fr .any) y) with
 | none=>rfl
 | some new =>
  simp only [Option.bind_some]
  by_cases hs:sized size new = true
  ·rw [if_pos hs,if_pos hs]
   cases v with
   | nil =>
    simp only
    cases lk bl none d with
    | none =>
     simp only
     by_cases h:new.length * bytes <= 140737488355328
     ·rw [if_pos h,if_pos h]
     ·rw [if_neg h,if_neg h]
    | some b=>rfl
   | own id ver =>
    simp only
    generalize lk bl none id = b
    cases b with
    | none=>rfl
    | some b=>cases b with
     | rows v e' size' rows =>
      simp only
      by_cases h:ver = v ∧ e' = e ∧ size' = size ∧ (rows.length + new.length) * bytes <= 140737488355328
      ·rw [if_pos h,if_pos h]
      ·rw [if_neg h,if_neg h]
     | _=>rfl
   | _=>rfl
  ·rw [if_neg hs,if_neg hs]
def P1 {α:Type} (e size bytes d:Nat) (x:V) (c:α->List D) (ys:List α) (bl:List (Nat × Option aR)) (kw:V->List (Nat × Option aR)->Option β):Option β:=match x with
   | .nil=>e8 bl d fun b=>kW b (if ys.length * bytes <= 140737488355328 then kw (.own d 0) [(d,some (.rows 0 e size (cM c ys)))] else none)
   | .own id ver=>e8 bl id fun b=>match b with
    | some (.rows v e' size' rows)=>if ver = v ∧ e' = e ∧ size' = size ∧ (rows.length + ys.length) * bytes <= 140737488355328 then kw (.own id (ver + 1)) [(id,some (.rows (ver + 1) e size (rows ++ cM c ys)))] else none
    | _=>none
   | _=>none
theorem XJ {α:Type} (e size bytes d:Nat) (x y:V) (c:α->List D) (ys:List α) (hy:∀ k' : List (List D)->Option β,F1 y bl k' = k' (cM c ys)) (hs:sized size (cM c ys) = true):LB e size bytes d x y bl kw = P1 e size bytes d x c ys bl kw:=by
 unfold LB P1
 rw [hy,if_pos hs,aI]
theorem UV {α:Type} (e size bytes d:Nat) (x:V) (c:α->List D) (ys:List α) (hs:sized size (cM c ys) = true):LB e size bytes d x (.d (.sl (cM c ys))) bl kw = P1 e size bytes d x c ys bl kw:=XJ e size bytes d x _ c ys (fun _=>rfl) hs
def aAB (e size bytes d:Nat) (x:V) (ver:Nat) (b:Option aR) (bl:List (Nat × Option aR)) (kw:V->List (Nat × Option aR)->Option β):Option β:=HG ver b fun new=>LB e size bytes d x (.d (.sl new)) bl kw
theorem aCb (e size bytes d id ver:Nat) (x:V):LB e size bytes d x (.own id ver) bl kw = e8 bl id fun b=>aAB e size bytes d x ver b bl kw:=by
 show LB e size bytes d x (.own id ver) bl kw = HG ver (lk bl none id) fun new=>LB e size bytes d x (.d (.sl new)) bl kw
 unfold LB
 rw [MK]
 rfl
theorem S6 {α:Type} (e size bytes d v e' s' : Nat) (x:V) (c:α->List D) (ys:List α) (hs:sized size (cM c ys) = true):aAB e size bytes d x v (some (.rows v e' s' (cM c ys))) bl kw = P1 e size bytes d x c ys bl kw:=by
 unfold aAB
 rw [H4,UV _ _ _ _ _ _ _ hs]
def aAn {α:Type} (e size bytes id ver:Nat) (c:α->List D) (ys:List α) (b:Option aR) (kw:V->List (Nat × Option aR)->Option β):Option β:=match b with
    | some (.rows v e' size' rows)=>if ver = v ∧ e' = e ∧ size' = size ∧ (rows.length + ys.length) * bytes <= 140737488355328 then kw (.own id (ver + 1)) [(id,some (.rows (ver + 1) e size (rows ++ cM c ys)))] else none
    | _=>none
theorem X1 {α:Type} (e size bytes d id ver:Nat) (c:α->List D) (ys:List α):P1 e size bytes d (.own id ver) c ys bl kw = e8 bl id fun b=>aAn e size bytes id ver c ys b kw:=rfl
theorem SZ {α:Type} (e size bytes id v:Nat) (c:α->List D) (xs ys:List α):aAn e size bytes id v c ys (some (.rows v e size (cM c xs))) kw = if (xs.length + ys.length) * bytes <= 140737488355328 then kw (.own id (v + 1)) [(id,some (.rows (v + 1) e size (cM c (xs ++ ys))))] else none:=by
 simp only [aAn,true_and,aI,WX]
def LN (e:Nat) (rows:List (List D)) (k:List (List D)->Option β):Option β:=k rows
def KE (v:V) (bl:List (Nat × Option aR)) (k:List D->List (Nat × Option aR)->Option β):Option β:=match cC (jT (lk bl none)) v.cells with
 | some row=>k row (sY (lk bl none) v)
 | none=>none
end
section
end
end
end Vm
end Go.Proofs.Ytjjcaapdaldedaa
