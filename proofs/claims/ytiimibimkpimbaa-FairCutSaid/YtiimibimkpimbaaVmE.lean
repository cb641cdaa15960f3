/- The small machine's code, read from the front: what is left to do stands in a continuation. Equations by which the small machine's code is read (they are named in the proofs that a program prints). The small machine, read from the front by rewriting at the head only: every value is looked up before it is used. -/
import Derived.Test.YtiimibimkpimbaaVmD
set_option linter.unusedVariables false
set_option linter.unusedSimpArgs false
namespace Go.Proofs.Ytiimibimkpimbaa
namespace Vm
open Go.RowKit
section
variable {β:Type}
noncomputable def eH (T:vF) (c:aT) (s:St) (k:Ex→St→Option β):Option β:=(ev T c s).bind fun p=>k p.1 p.2
noncomputable def tF (T:vF) (l:List bK) (s:St) (k:St→Option β):Option β:=(lC (call T) l s).bind k
noncomputable def aHD (T:vF) (l:List bK) (ps:List (Nat × Nat)) (s:St) (k:St→Option β):Option β:=(gI (call T) l (some ps) s).bind k
def FZ (r:FC) (k:V→List (Nat × Option aL)→Option β):Option β:=match r with
 | some (v,wr)=>k v wr
 | none=>none
def SY (v:V) (x y:Option β):Option β:=match v with
 | .d (.bool b)=>if b = true then x else y
 | _=>none
def aFT (k1:St→Option β) (k:Ex→St→Option β):Ex→St→Option β
 | .normal,s=>k1 s
 | e,s=>k e s
def KI (id:Nat) (k:Ex→St→Option β):Ex→St→Option β
 | .exit id',s=>if id' = id then k .normal s else k (.exit id') s
 | e,s=>k e s
def TE (m:xZ) (k:Ex→St→Option β):Ex→St→Option β
 | .normal,s=>k .normal (m.app s)
 | e,s=>k e s
theorem xI {v v' : V} {x y:Option β} (h:v = v'):SY v x y = SY v' x y:=by rw [h]
theorem aBb (v:V) (wr:List (Nat × Option aL)) (k:V→List (Nat × Option aL)→Option β):FZ (some (v,wr)) k = k v wr:=rfl
theorem W4 (b:Bool) (x y:Option β):SY (.d (.bool b)) x y = if b = true then x else y:=rfl
variable {T:vF} {k:Ex→St→Option β}
theorem aDx (s:St):eH T .skip s k = k .normal s:=by unfold eH; rw [aGR]; rfl
theorem aDk (id:Nat) (s:St):eH T (.exit id) s k = k (.exit id) s:=by unfold eH; rw [aFK]; rfl
theorem aHy (s:St):eH T .ret s k = k .ret s:=by unfold eH; rw [aII]; rfl
theorem WL (l:List bK) (s:St):eH T (.region l none) s k = tF T l s (k .normal):=by
 unfold eH tF
 rw [NZ]
 simp only [gI]
 cases lC (call T) l s <;> rfl
theorem aB0 (l:List bK) (ps:List (Nat × Nat)) (s:St):eH T (.region l (some ps)) s k = aHD T l ps s (k .normal):=by
 unfold eH aHD
 rw [NZ]
 cases gI (call T) l (some ps) s <;> rfl
theorem aF7 (a b:aT) (s:St):eH T (.seq a b) s k = eH T a s (aFT (fun s'=>eH T b s' k) k):=by
 unfold eH
 rw [aIQ]
 cases ev T a s with
 | none=>rfl
 | some r =>
  obtain ⟨e,s'⟩:=r
  cases e <;> rfl
theorem aDm (c:dL) (a b:aT) (s:St):eH T (.cond c a b) s k = SY (cU s.get c) (eH T a s k) (eH T b s k):=by
 unfold eH
 rw [aFd]
 generalize cU s.get c = v
 cases v with
 | d x=>cases x with
  | bool b=>cases b <;> rfl
  | _=>rfl
 | _=>rfl
theorem aAI (id:Nat) (a:aT) (s:St):eH T (.block id a) s k = eH T a s (KI id k):=by
 unfold eH
 rw [aCw]
 cases ev T a s with
 | none=>rfl
 | some r =>
  obtain ⟨e,s'⟩:=r
  cases e with
  | normal=>rfl
  | exit i =>
   simp only [Option.bind_some,KI]
   by_cases h:i = id
   ·simp [h]
   ·simp [h]
  | ret=>rfl
theorem aGG (m:xZ) (a:aT) (s:St):eH T (.pre m a) s k = eH T a (m.app s) k:=rfl
theorem aCB (m:xZ) (a:aT) (s:St):eH T (.post a m) s k = eH T a s (TE m k):=by
 unfold eH
 rw [aF9]
 cases ev T a s with
 | none=>rfl
 | some r =>
  obtain ⟨e,s'⟩:=r
  cases e <;> rfl
theorem cP {S X:Type} {step:S→Option (S ⊕ X)} {c:aT} (enc:S→St) (out:X→Ex × St) (hout:∀ x s,out x ≠ (.normal,s))
  (h:∀ s,eH T c (enc s) (fun e s'=>some (e,s')) = eW enc out (step s)) (s:S) :
  eH T (.loop c) (enc s) k = (fE step s).bind fun x=>k (out x).1 (out x).2:=by
 unfold eH
 rw [aEK enc out hout (fun s=>by
  have:=h s
  unfold eH at this
  rw [← this]
  cases ev T c (enc s) <;> rfl) s]
 cases fE step s <;> rfl
theorem aG2 (ops:List bK) (args:List dL) (dst:Option Nat) (f:Nat) (body:aT) (res:List m6) (id:Nat) (slots:List Nat) (s:St) :
  eH T (.inl ops args dst f body res id slots) s k = tF T ops s fun s1=>(OE args id slots s1).bind fun s2=>eH T body s2 fun ex s3=>match ex with
   | .exit _=>none
   | _=>(pF dst res id slots s3).bind fun s4=>k .normal s4:=by
 unfold eH tF
 rw [aIA]
 cases lC (call T) ops s with
 | none=>rfl
 | some s1 =>
  simp only [Option.bind_some]
  cases OE args id slots s1 with
  | none=>rfl
  | some s2 =>
   simp only [Option.bind_some]
   cases ev T body s2 with
   | none=>rfl
   | some q =>
    obtain ⟨e,s3⟩:=q
    cases e with
    | normal=>simp only [Option.bind_some]; cases pF dst res id slots s3 <;> rfl
    | exit i=>rfl
    | ret=>simp only [Option.bind_some]; cases pF dst res id slots s3 <;> rfl
theorem aIs (k1:St→Option β) (k:Ex→St→Option β) (s:St):aFT k1 k .normal s = k1 s:=rfl
theorem aJg (k1:St→Option β) (k:Ex→St→Option β) (i:Nat) (s:St):aFT k1 k (.exit i) s = k (.exit i) s:=rfl
theorem aIH (k1:St→Option β) (k:Ex→St→Option β) (s:St):aFT k1 k .ret s = k .ret s:=rfl
theorem aB8 (id:Nat) (k:Ex→St→Option β) (s:St):KI id k .normal s = k .normal s:=rfl
theorem aCC (id:Nat) (k:Ex→St→Option β) (i:Nat) (s:St):KI id k (.exit i) s = if i = id then k .normal s else k (.exit i) s:=rfl
theorem aE6 (id:Nat) (k:Ex→St→Option β) (s:St):KI id k .ret s = k .ret s:=rfl
theorem aFu (m:xZ) (k:Ex→St→Option β) (s:St):TE m k .normal s = k .normal (m.app s):=rfl
theorem aFX (m:xZ) (k:Ex→St→Option β) (i:Nat) (s:St):TE m k (.exit i) s = k (.exit i) s:=rfl
theorem aHm (m:xZ) (k:Ex→St→Option β) (s:St):TE m k .ret s = k .ret s:=rfl
theorem aEr (s:St) (k:St→Option β):tF T [] s k = k s:=rfl
theorem N3 (d:Option Nat) (op:jB) (st:Nat) (l:List bK) (s:St) (k:St→Option β) :
  tF T (⟨d,op,none,st⟩ :: l) s k = FZ (eG (call T) st (cU s.get) s.blk op) fun v wr=>tF T l (s.put d v wr) k:=by
 unfold tF FZ
 simp only [lC,uX,bK.wants]
 cases eG (call T) st (cU s.get) s.blk op with
 | none=>rfl
 | some r=>rfl
noncomputable def mW (T:vF):List bK→St→List Fp→(St→List Fp→Option β)→Option β
 | [],s,fp,k=>k s fp
 | o :: l,s,fp,k=>match jY (call T) o s with
  | some (s',p)=>mW T l s' (p :: fp) k
  | none=>none
theorem aDu (l:List bK) (s:St) (fp:List Fp) (k:St→List Fp→Option β):mW T l s fp k = (jA (call T) l s).bind fun r=>k r.1 (r.2.reverse ++ fp):=by
 induction l generalizing s fp with
 | nil=>rfl
 | cons o l ih =>
  simp only [mW,jA]
  cases jY (call T) o s with
  | none=>rfl
  | some q =>
   obtain ⟨s',p⟩:=q
   simp only [ih]
   cases jA (call T) l s' with
   | none=>rfl
   | some r=>obtain ⟨s'',ps⟩:=r; simp
def aHq (l:List bK) (ps:List (Nat × Nat)) (k:St→Option β) (s:St) (fp:List Fp):Option β:=if F1 l fp.reverse ps = true then k s else none
theorem aHu (l:List bK) (ps:List (Nat × Nat)) (s:St) (k:St→Option β):aHD T l ps s k = mW T l s [] (aHq l ps k):=by
 rw [aDu]
 unfold aHD
 simp only [gI]
 cases jA (call T) l s with
 | none=>rfl
 | some r =>
  obtain ⟨s',fp⟩:=r
  simp only [Option.bind_some,aHq,List.append_nil,List.reverse_reverse]
  cases h:F1 l fp ps <;> simp
theorem LH (d:Option Nat) (op:jB) (st:Nat) (l:List bK) (s:St) (fp:List Fp) (k:St→List Fp→Option β) :
  mW T (⟨d,op,none,st⟩ :: l) s fp k = FZ (eG (call T) st (cU s.get) s.blk op) fun v wr=>mW T l (s.put d v wr) (uO ⟨d,op,none,st⟩ s.get s.blk wr :: fp) k:=by
 unfold FZ
 simp only [mW,jY,bK.wants]
 cases eG (call T) st (cU s.get) s.blk op with
 | none=>rfl
 | some r=>rfl
theorem E8 (fr:List (Nat × V)) (bl:List (Nat × Option aL)) (t:Nat):St.get ⟨fr,bl⟩ t = lk fr .any t:=rfl
theorem aCW (fr:List (Nat × V)) (bl:List (Nat × Option aL)) (i:Nat):St.blk ⟨fr,bl⟩ i = lk bl none i:=rfl
theorem aJ7 (live keep:List Nat) (p:Nat × Nat × Nat × Nat) (l:List (Nat × Nat × Nat × Nat)) (c:List (Nat × Nat × Nat × Nat × Nat)) (ft:List Nat) (fc:List (Nat × Nat)) (s:St):xZ.app ⟨live,keep,p :: l,c,ft,fc⟩ s = xZ.app ⟨live,keep,l,c,ft,fc⟩ (mkT p s):=rfl
end
end Vm
end Go.Proofs.Ytiimibimkpimbaa
set_option linter.unusedVariables false
set_option linter.unusedSimpArgs false
namespace Go.Proofs.Ytiimibimkpimbaa
namespace Vm
open Go.RowKit
def at? {α:Type} (xs:List α) (n:Int):Option α:=if 0 ≤ n then xs[n.toNat]? else none
def cI (n:Int):List D:=[.int .i64 n]
def cB (b:Bool):List D:=[.bool b]
def cS (s:ByteArray):List D:=[.str s]
def cK (k:IntKind) (n:Int):List D:=[.int k n]
def cM {α:Type} (c:α→List D) (xs:List α):List (List D):=xs.map c
def cL {α:Type} (c:α→List D) (xs:List α):List D:=[.sl (cM c xs)]
def EN {α:Type} (xs:List α) (l h:Int):List α:=(xs.take h.toNat).drop l.toNat
def v8 (n:Nat) (l h:Int):Prop:=0 ≤ l ∧ l ≤ h ∧ h.toNat ≤ n
instance (n:Nat) (l h:Int):Decidable (v8 n l h):=inferInstanceAs (Decidable (_ ∧ _ ∧ _))
section
variable {β:Type} {T:vF} {site:Nat} {ev:dL→V} {bl:Nat→Option aL} (k:V→List (Nat × Option aL)→Option β)
def P9 (size:Nat) (x i:V) (bl:Nat→Option aL):FC:=match i with
  | .d (.int _ n)=>match x with
   | .own id ver=>match bl id with
    | some (.rows v e sz rows)=>if ver = v ∧ sz = size ∧ 0 ≤ n ∧ n.toNat < rows.length then some (.orow id ver n.toNat 0,[]) else none
    | some (.froz v rows)=>if ver = v ∧ 0 ≤ n then match rows[n.toNat]? with
     | some row=>if row.length = size then some (.d (.ptr row 0),[]) else none
     | none=>none
     else none
    | _=>none
   | .d (.sl rows)=>if 0 ≤ n then match rows[n.toNat]? with
    | some row=>if row.length = size then some (.d (.ptr row 0),[]) else none
    | none=>none
    else none
   | _=>none
  | _=>none
theorem M9 (C:Nat→List D→Option D) (size:Nat) (x i:dL):eG C site ev bl (.indexAddr size x i) = P9 size (ev x) (ev i) bl:=rfl
theorem aG6 {α:Type} (size:Nat) (c:α→List D) (xs:List α) (kd:IntKind) (n:Int) (bl:Nat→Option aL):FZ (P9 size (.d (.sl (cM c xs))) (.d (.int kd n)) bl) k = (at? xs n).bind fun x=>if (c x).length = size then k (.d (.ptr (c x) 0)) [] else none:=by
 simp only [P9,at?,cM]
 by_cases h:0 ≤ n
 ·rw [if_pos h,if_pos h,List.getElem?_map]
  cases xs[n.toNat]? with
  | none=>rfl
  | some x =>
   simp only [Option.map_some,Option.bind_some]
   by_cases h2:(c x).length = size
   ·rw [if_pos h2,if_pos h2]; rfl
   ·rw [if_neg h2,if_neg h2]; rfl
 ·rw [if_neg h,if_neg h]; rfl
def aIk (size id ver:Nat) (n:Int) (b:Option aL):FC:=match b with
 | some (.rows v e sz rows)=>if ver = v ∧ sz = size ∧ 0 ≤ n ∧ n.toNat < rows.length then some (.orow id ver n.toNat 0,[]) else none
 | some (.froz v rows)=>if ver = v ∧ 0 ≤ n then match rows[n.toNat]? with
  | some row=>if row.length = size then some (.d (.ptr row 0),[]) else none
  | none=>none
  else none
 | _=>none
theorem aAk (size id ver v e sz:Nat) (n:Int) (rows:List (List D)) (k:V→List (Nat × Option aL)→Option β):FZ (aIk size id ver n (some (.rows v e sz rows))) k = if ver = v then (if sz = size then (if 0 ≤ n ∧ n.toNat < rows.length then k (.orow id ver n.toNat 0) [] else none) else none) else none:=by
 simp only [aIk]
 by_cases h1:ver = v
 ·by_cases h2:sz = size
  ·by_cases h3:0 ≤ n ∧ n.toNat < rows.length
   ·rw [if_pos ⟨h1,h2,h3⟩,if_pos h1,if_pos h2,if_pos h3]; rfl
   ·rw [if_neg (fun q=>h3 q.2.2),if_pos h1,if_pos h2,if_neg h3]; rfl
  ·rw [if_neg (fun q=>h2 q.2.1),if_pos h1,if_neg h2]; rfl
 ·rw [if_neg (fun q=>h1 q.1),if_neg h1]; rfl
def S5 (size:Nat) (isAgg:Bool) (off:Nat) (row:List D):FC :=
 if isAgg then (if off + size ≤ row.length then some (.agg (((row.drop off).take size).map .d),[]) else none) else row[off]?.map fun v=>(.d v,[])
def X9 (size:Nat) (isAgg:Bool) (off:Nat) (b:Option aL):FC:=match b with
 | some (.box cs) =>
  if isAgg then (if off + size ≤ cs.length then some (.agg ((cs.drop off).take size),[]) else none)
  else cs[off]?.map fun v=>(v,[])
 | some (.fbox row)=>S5 size isAgg off row
 | _=>none
def aCa (size:Nat) (isAgg:Bool) (ver i off:Nat) (b:Option aL):FC:=match b with
 | some (.rows v e sz rows)=>if ver = v then match rows[i]? with
  | some row=>S5 size isAgg off row
  | none=>none
  else none
 | _=>none
def F5 (size:Nat) (isAgg:Bool) (x:V) (bl:Nat→Option aL):FC:=match x with
 | .ptr id off=>X9 size isAgg off (bl id)
 | .d (.ptr row off)=>S5 size isAgg off row
 | .orow id ver i off=>aCa size isAgg ver i off (bl id)
 | _=>none
theorem B9 (C:Nat→List D→Option D) (size:Nat) (isAgg:Bool) (x:dL):eG C site ev bl (.load size isAgg x) = F5 size isAgg (ev x) bl:=rfl
theorem aAA (size:Nat) (isAgg:Bool) (id off:Nat) (bl:Nat→Option aL):F5 size isAgg (.ptr id off) bl = X9 size isAgg off (bl id):=rfl
theorem aGp (size:Nat) (isAgg:Bool) (id ver i off:Nat) (bl:Nat→Option aL):F5 size isAgg (.orow id ver i off) bl = aCa size isAgg ver i off (bl id):=rfl
theorem aFP (size off:Nat) (cs:List V):X9 size true off (some (.box cs)) = if off + size ≤ cs.length then some (.agg ((cs.drop off).take size),[]) else none:=rfl
theorem aHR (size off:Nat) (cs:List V):X9 size false off (some (.box cs)) = cs[off]?.map fun v=>(v,[]):=rfl
def LX (size ver i off id:Nat) (fz:List (Nat × Option aL)) (ds:Option (List D)) (b:Option aL):FC:=match b with
 | some (.rows w e sz rows)=>if ver = w then match rows[i]?,ds with
  | some row,some ds=>if ds.length = size ∧ off + size ≤ row.length ∧ wW id fz = true then some (.any,(id,some (.rows w e sz (rows.set i (jU row off ds)))) :: fz) else none
  | _,_=>none
  else none
 | _=>none
def W1 (size off id:Nat) (v:V) (b:Option aL):FC:=match b with
 | some (.box cs)=>if v.cells.length = size ∧ off + size ≤ cs.length ∧ v.known = true then some (.any,[(id,some (.box (jU cs off v.cells)))]) else none
 | _=>none
def VR (size:Nat) (x v:V) (bl:Nat→Option aL):FC:=match x with
 | .ptr id off=>W1 size off id v (bl id)
 | .orow id ver i off=>LX size ver i off id (sG bl v) (bB (l9 bl) v.cells) (bl id)
 | _=>none
theorem aAn (C:Nat→List D→Option D) (size:Nat) (x v:dL):eG C site ev bl (.store size x v) = VR size (ev x) (ev v) bl:=rfl
theorem aCr (size id off:Nat) (v:V) (bl:Nat→Option aL):VR size (.ptr id off) v bl = W1 size off id v (bl id):=rfl
theorem aDN (size id ver i off:Nat) (v:V) (bl:Nat→Option aL):VR size (.orow id ver i off) v bl = LX size ver i off id (sG bl v) (bB (l9 bl) v.cells) (bl id):=rfl
theorem V6 (size off id:Nat) (v:V) (cs:List V):W1 size off id v (some (.box cs)) = if v.cells.length = size ∧ off + size ≤ cs.length ∧ v.known = true then some (.any,[(id,some (.box (jU cs off v.cells)))]) else none:=rfl
theorem Z3 (C:Nat→List D→Option D) (size:Nat) (x:dL) (lo hi:Option dL):eG C site ev bl (.slice size x lo hi) = AR bl size (ev x) (lo.map ev) (hi.map ev):=rfl
def aH8 (ver:Nat) (b:Option aL):Option (List (List D)):=match b with
 | some (.rows v _ _ rows)=>if ver = v then some rows else none
 | some (.froz v rows)=>if ver = v then some rows else none
 | _=>none
def HH (v:Option V) (d:Int):Option Int:=match v with
 | none=>some d
 | some (.d (.int _ h))=>some h
 | _=>none
theorem aAx {α:Type} (size:Nat) (c:α→List D) (xs:List α) (lo hi:Option V) (l h:Int) (hl:HH lo 0 = some l) (hh:HH hi (xs.length:Int) = some h) (hs:sized size (cM c xs) = true) (bl:Nat→Option aL):FZ (AR bl size (.d (.sl (cM c xs))) lo hi) k = if v8 xs.length l h then k (.d (.sl (cM c (EN xs l h)))) [] else none:=by
 have e0:∀ lo' hi',AR bl size (.d (.sl (cM c xs))) lo' hi' = (match HH hi' ((cM c xs).length:Int),HH lo' 0 with
   | some h,some l=>if 0 ≤ l ∧ l ≤ h ∧ h.toNat ≤ (cM c xs).length ∧ sized size (cM c xs) = true then some (.d (.sl (((cM c xs).take h.toNat).drop l.toNat)),[]) else none
   | _,_=>none):=fun lo' hi'=>rfl
 rw [e0,show ((cM c xs).length:Int) = (xs.length:Int) by simp [cM],hl,hh]
 simp only [show (cM c xs).length = xs.length by simp [cM]]
 by_cases q:v8 xs.length l h
 ·rw [if_pos q,if_pos ⟨q.1,q.2.1,q.2.2,hs⟩]
  simp only [aBb,cM,EN,List.map_drop,List.map_take]
 ·rw [if_neg q,if_neg (fun w=>q ⟨w.1,w.2.1,w.2.2.1⟩)]; rfl
end
section
variable {S X:Type} {enc:S→St} {out:X→Ex × St}
theorem aS (c:Prop) [Decidable c] (a b:Option (S ⊕ X)):eW enc out (if c then a else b) = if c then eW enc out a else eW enc out b:=by split <;> rfl
theorem aH {α:Type} (o:Option α) (f:α→Option (S ⊕ X)):eW enc out (o.bind f) = o.bind fun x=>eW enc out (f x):=by cases o <;> rfl
theorem aI:eW enc out none = none:=rfl
theorem aO (s:S):eW enc out (some (.inl s)) = some (.normal,enc s):=rfl
theorem aR (x:X):eW enc out (some (.inr x)) = some (out x):=rfl
end
theorem pM {α:Type} (size:Nat) (c:α→List D) (hc:∀ x,(c x).length = size) (xs:List α):sized size (cM c xs) = true:=by
 simp [sized,cM,hc]
theorem aV (xs:List Int):sized 1 (cM cI xs) = true:=pM _ _ (fun x=>by rfl) xs
theorem aY (k:IntKind) (xs:List Int):sized 1 (cM (cK k) xs) = true:=pM _ _ (fun x=>by rfl) xs
theorem a8 (xs:List Bool):sized 1 (cM cB xs) = true:=pM _ _ (fun x=>by rfl) xs
theorem aZ (xs:List ByteArray):sized 1 (cM cS xs) = true:=pM _ _ (fun x=>by rfl) xs
theorem aW {α:Type} (c:α→List D) (xs:List (List α)):sized 1 (cM (cL c) xs) = true:=pM _ _ (fun x=>by rfl) xs
theorem aK {α:Type} (c:α→List D) (xs:List α):(cM c xs).length = xs.length:=by simp [cM]
theorem ZF {α:Type} (c:α→List D) (xs ys:List α):cM c xs ++ cM c ys = cM c (xs ++ ys):=by simp [cM]
theorem aIO {α:Type} (c:α→List D) (xs:List α) (i:Nat) (x:α):cM c (xs.set i x) = (cM c xs).set i (c x):=by simp [cM,List.map_set]
theorem PG {α:Type} (c:α→List D) (n:Nat) (x:α):cM c (List.replicate n x) = List.replicate n (c x):=by simp [cM]
theorem aU {α γ:Type} (c:Prop) [Decidable c] (a b:Option α) (f:α→Option γ):(if c then a else b).bind f = if c then a.bind f else b.bind f:=by split <;> rfl
theorem bH {α γ:Type} (c:Prop) [Decidable c] (a b:Option α) (f:α→γ):(if c then a else b).map f = if c then a.map f else b.map f:=by split <;> rfl
theorem bind_map {α γ δ:Type} (o:Option α) (f:α→Option γ) (g:γ→δ):(o.bind f).map g = o.bind fun x=>(f x).map g:=by cases o <;> rfl
theorem aP {α γ:Type} (f:α→Option γ):(none:Option α).bind f = none:=rfl
theorem aQ {α γ δ ε:Type} (f:α→Option δ) (g:γ→Option δ) (x:α ⊕ γ) (h:δ→Option ε):(Sum.elim f g x).bind h = Sum.elim (fun y=>(f y).bind h) (fun y=>(g y).bind h) x:=by cases x <;> rfl
theorem aX {α γ δ ε:Type} (f:α→Option δ) (g:γ→Option δ) (x:α ⊕ γ) (h:δ→ε):(Sum.elim f g x).map h = Sum.elim (fun y=>(f y).map h) (fun y=>(g y).map h) x:=by cases x <;> rfl
def gIf {α:Type} (b:Bool) (x y:α):α:=if b = true then x else y
theorem bN {α:Type} (b:Bool) (x y:α):gIf b x y = if b = true then x else y:=rfl
theorem aJ {S X α γ:Type} {enc:S→St} {out:X→Ex × St} (f:α→Option (S ⊕ X)) (g:γ→Option (S ⊕ X)) (x:α ⊕ γ):eW enc out (Sum.elim f g x) = Sum.elim (fun y=>eW enc out (f y)) (fun y=>eW enc out (g y)) x:=by cases x <;> rfl
def aLJ (sf:gM):Ex→St→Option D
 | .normal,s=>C8 sf s
 | .ret,s=>C8 sf s
 | .exit _,_=>none
theorem UC {T:vF} {f:Nat} {sf:gM} (hf:T f = some (.code sf)) (ds:List D) (hl:ds.length = sf.np) (hlt:iG 0 ds = none):Vm.call T f ds = eH T sf.body ⟨nX 0 ds,[]⟩ (aLJ sf):=by
 rw [aHI hf ds hl hlt]
 unfold eH
 cases Vm.ev T sf.body ⟨nX 0 ds,[]⟩ with
 | none=>rfl
 | some q =>
  obtain ⟨e,s⟩:=q
  cases e <;> rfl
theorem bL {α β:Type} (o:Option α) {f g:α→Option β} (h:∀ x,f x = g x):o.bind f = o.bind g:=by rw [funext h]
end Vm
end Go.Proofs.Ytiimibimkpimbaa
set_option linter.unusedVariables false
set_option linter.unusedSimpArgs false
namespace Go.Proofs.Ytiimibimkpimbaa
namespace Vm
open Go.RowKit
section
variable {β:Type}
def pW (fr:List (Nat × V)) (t:Nat) (k:V→Option β):Option β:=k (lk fr .any t)
def dK (bl:List (Nat × Option aL)) (i:Nat) (k:Option aL→Option β):Option β:=k (lk bl none i)
def dX (fr:List (Nat × V)) (o:dL) (k:V→Option β):Option β:=k (cU (lk fr .any) o)
theorem aDv (t:Nat) (v:V) (fr:List (Nat × V)) (k:V→Option β):pW ((t,v) :: fr) t k = k v:=by simp [pW,lk]
theorem aAS (a t:Nat) (v:V) (fr:List (Nat × V)) (k:V→Option β) (h:(t == a) = false):pW ((a,v) :: fr) t k = pW fr t k:=by
 have:¬ t = a:=by simpa using h
 simp [pW,lk,this]
theorem aEN (t:Nat) (v:Option aL) (fr:List (Nat × Option aL)) (k:Option aL→Option β):dK ((t,v) :: fr) t k = k v:=by simp [dK,lk]
theorem ZI (a t:Nat) (v:Option aL) (fr:List (Nat × Option aL)) (k:Option aL→Option β) (h:(t == a) = false):dK ((a,v) :: fr) t k = dK fr t k:=by
 have:¬ t = a:=by simpa using h
 simp [dK,lk,this]
theorem aEM (t:Nat) (k:Option aL→Option β):dK [] t k = k none:=rfl
theorem aHw (bl:List (Nat × Option aL)) (t:Nat) (k:Option aL→Option β):dK ([] ++ bl) t k = dK bl t k:=rfl
theorem aFF (p:Nat × Option aL) (w bl:List (Nat × Option aL)) (t:Nat) (k:Option aL→Option β):dK ((p :: w) ++ bl) t k = dK (p :: (w ++ bl)) t k:=rfl
theorem aIu (fr:List (Nat × V)) (t:Nat) (k:V→Option β):dX fr (.t t) k = pW fr t k:=rfl
theorem aIR (fr:List (Nat × V)) (v:V) (k:V→Option β):dX fr (.c v) k = k v:=rfl
def bQ (ds:List D):List V:=ds.map .d
def n9 (ds:List D):V:=.agg (bQ ds)
noncomputable def tT (T:vF) (d:Nat) (op:jB) (fr:List (Nat × V)) (bl:List (Nat × Option aL)) (k:V→Option β) (kw:V→List (Nat × Option aL)→Option β):Option β :=
 match eG (call T) d (cU (lk fr .any)) (lk bl none) op with
 | none=>none
 | some (v,[])=>k v
 | some (v,p :: wr)=>kw v (p :: wr)
theorem ZB {T:vF} (d st:Nat) (op:jB) (l:List bK) (fr:List (Nat × V)) (bl:List (Nat × Option aL)) (k:St→Option β) :
  tF T (⟨some d,op,none,st⟩ :: l) ⟨fr,bl⟩ k = tT T st op fr bl (fun v=>tF T l ⟨(d,v) :: fr,bl⟩ k) (fun v wr=>tF T l ⟨(d,v) :: fr,wr ++ bl⟩ k):=by
 rw [N3]
 unfold tT FZ
 show (match eG (call T) st (cU (lk fr .any)) (lk bl none) op with | some (v,wr)=>_ | none=>none) = _
 cases eG (call T) st (cU (lk fr .any)) (lk bl none) op with
 | none=>rfl
 | some r=>obtain ⟨v,wr⟩:=r; cases wr <;> rfl
theorem V9 {T:vF} (st:Nat) (op:jB) (l:List bK) (fr:List (Nat × V)) (bl:List (Nat × Option aL)) (k:St→Option β) :
  tF T (⟨none,op,none,st⟩ :: l) ⟨fr,bl⟩ k = tT T st op fr bl (fun _=>tF T l ⟨fr,bl⟩ k) (fun _ wr=>tF T l ⟨fr,wr ++ bl⟩ k):=by
 rw [N3]
 unfold tT FZ
 show (match eG (call T) st (cU (lk fr .any)) (lk bl none) op with | some (v,wr)=>_ | none=>none) = _
 cases eG (call T) st (cU (lk fr .any)) (lk bl none) op with
 | none=>rfl
 | some r=>obtain ⟨v,wr⟩:=r; cases wr <;> rfl
def bY (t:Nat) (b:Bool) (op:jB):jB:=match op with
 | .pick (.t t') x y=>if t' = t then .move (if b then x else y) else op
 | op=>op
def bZ (t:Nat) (b:Bool) (o:bK):bK:=match o.guard with
 | some (t',w)=>if t' = t then (if w = b then ⟨o.dst,bY t b o.op,none,o.site⟩ else ⟨o.dst,.move (.c (.tup [])),none,o.site⟩) else ⟨o.dst,bY t b o.op,some (t',w),o.site⟩
 | none=>⟨o.dst,bY t b o.op,none,o.site⟩
def bW (t:Nat) (b:Bool):List bK→List bK
 | []=>[]
 | o :: l=>bZ t b o :: (if o.dst = some t then l else bW t b l)
theorem wC {C:Nat→List D→Option D} {site:Nat} {fr:Nat→V} {bl:Nat→Option aL} {t:Nat} {b:Bool} (h:fr t = .d (.bool b)) (op:jB):eG C site (cU fr) bl (bY t b op) = eG C site (cU fr) bl op:=by
 cases op with
 | pick c x y =>
  cases c with
  | t t' =>
   simp only [bY]
   split
   ·rename_i e
    subst e
    simp only [eG,cU,h]
    cases b <;> rfl
   ·rfl
  | c v=>rfl
 | _=>rfl
theorem Z9 {C:Nat→List D→Option D} {s:St} {t:Nat} {b:Bool} (h:s.get t = .d (.bool b)) (o:bK):uX C (bZ t b o) s = uX C o s:=by
 obtain ⟨d,op,g,st⟩:=o
 cases g with
 | some g =>
  obtain ⟨t',w⟩:=g
  simp only [bZ]
  split
  ·rename_i e
   subst e
   split
   ·rename_i e
    subst e
    simp only [uX,bK.wants,h,wC h]
    cases w <;> rfl
   ·rename_i e
    simp only [uX,bK.wants,h,eG,cU]
    cases w <;> cases b <;> simp_all [u5]
  ·simp only [uX,bK.wants,wC h]
 | none=>simp only [bZ,uX,bK.wants,wC h]
theorem A7 {s:St} {d:Option Nat} {v:V} {wr:List (Nat × Option aL)} {t:Nat} (h:¬ d = some t):(s.put d v wr).get t = s.get t:=by
 cases d with
 | none=>rfl
 | some a =>
  show lk ((a,v) :: s.fr) .any t = lk s.fr .any t
  have:¬ t = a:=fun e=>h (by rw [e])
  simp [lk,this]
theorem Z2 {C:Nat→List D→Option D} {o:bK} {s s' : St} {t:Nat} (h:¬ o.dst = some t) (e:uX C o s = some s'):s'.get t = s.get t:=by
 unfold uX at e
 split at e
 ·split at e
  ·cases e; exact A7 h
  ·cases e
 ·cases e; exact A7 h
 ·cases e
theorem GH {C:Nat→List D→Option D} {t:Nat} {b:Bool}:∀ (l:List bK) {s:St} (h:s.get t = .d (.bool b)),lC C (bW t b l) s = lC C l s
 | [],s,h=>rfl
 | o :: l,s,h=>by
  simp only [bW,lC,Z9 h]
  cases e:uX C o s with
  | none=>rfl
  | some s' =>
   simp only
   split
   ·rfl
   ·rename_i hd
    exact GH l (by rw [Z2 hd e]; exact h)
noncomputable def G0 (T:vF) (v:V) (t:Nat) (l:List bK) (s:St) (k:St→Option β):Option β:=match v with
 | .d (.bool b)=>if b = true then tF T (bW t true l) s k else tF T (bW t false l) s k
 | .tup []=>match l with
  | o :: r=>tF T r (s.put o.dst (.tup []) []) k
  | []=>none
 | _=>none
theorem VZ {T:vF} (d:Option Nat) (op:jB) (t:Nat) (w:Bool) (st:Nat) (l:List bK) (fr:List (Nat × V)) (bl:List (Nat × Option aL)) (k:St→Option β) :
  tF T (⟨d,op,some (t,w),st⟩ :: l) ⟨fr,bl⟩ k = pW fr t fun v=>G0 T v t (⟨d,op,some (t,w),st⟩ :: l) ⟨fr,bl⟩ k:=by
 show _ = G0 T (lk fr .any t) t _ _ k
 generalize hv:lk fr .any t = v
 have bad:∀ (q:u5 v w = .bad),tF T (⟨d,op,some (t,w),st⟩ :: l) ⟨fr,bl⟩ k = none:=by
  intro q
  unfold tF
  simp only [lC,uX,bK.wants]
  rw [show (St.get ⟨fr,bl⟩ t) = v from hv,q]; rfl
 cases v with
 | d x =>
  cases x with
  | bool b =>
   simp only [G0]
   cases b with
   | true=>rw [if_pos rfl]; unfold tF; rw [GH (t:=t) (b:=true) (s:=⟨fr,bl⟩) _ hv]
   | false=>rw [if_neg (by decide)]; unfold tF; rw [GH (t:=t) (b:=false) (s:=⟨fr,bl⟩) _ hv]
  | _=>exact bad rfl
 | tup vs =>
  cases vs with
  | nil =>
   simp only [G0]
   unfold tF
   simp only [lC,uX,bK.wants]
   rw [show (St.get ⟨fr,bl⟩ t) = _ from hv]
   rfl
  | cons x l=>exact bad rfl
 | _=>exact bad rfl
theorem aDL {T:vF} (b:Bool) (t:Nat) (l:List bK) (s:St) (k:St→Option β):G0 T (.d (.bool b)) t l s k = if b = true then tF T (bW t true l) s k else tF T (bW t false l) s k:=rfl
theorem aDK {T:vF} (t d st:Nat) (op:jB) (g:Option (Nat × Bool)) (l:List bK) (fr:List (Nat × V)) (bl:List (Nat × Option aL)) (k:St→Option β):G0 T (.tup []) t (⟨some d,op,g,st⟩ :: l) ⟨fr,bl⟩ k = tF T l ⟨(d,.tup []) :: fr,bl⟩ k:=rfl
theorem AF {T:vF} {l l' : List bK} {s:St} {k:St→Option β} (h:l = l'):tF T l s k = tF T l' s k:=by rw [h]
section
variable {T:vF} {d:Nat} {fr:List (Nat × V)} {bl:List (Nat × Option aL)} {k:V→Option β} {kw:V→List (Nat × Option aL)→Option β}
def yS (r:FC) (k:V→Option β) (kw:V→List (Nat × Option aL)→Option β):Option β:=match r with
 | none=>none
 | some (v,[])=>k v
 | some (v,p :: wr)=>kw v (p :: wr)
theorem PA (o:Option D):yS (FC.v o) k kw = o.bind fun x=>k (.d x):=by cases o <;> rfl
theorem aCo (x:dL):tT T d (.move x) fr bl k kw = dX fr x k:=rfl
def jC (b:Option aL) (x:Option β):Option β:=match b with
 | none=>x
 | some _=>none
theorem aFL (x:Option β):jC none x = x:=rfl
theorem aAU (z:List V):tT T d (.alloc z) fr bl k kw = dK bl d fun b=>jC b (kw (.ptr d 0) [(d,some (.box z))]):=by
 unfold tT dK jC
 simp only [eG]
 cases lk bl none d <;> rfl
def A8 (v:V) (k:List V→Option β):Option β:=if v.known = true then k v.cells else none
theorem aCQ (x:D) (k:List V→Option β):A8 (.d x) k = k [.d x]:=rfl
theorem W7 (cs:List V) (k:List V→Option β):A8 (.agg cs) k = k cs:=rfl
theorem Q0 (ds:List D) (k:List V→Option β):A8 (n9 ds) k = k (bQ ds):=rfl
theorem XQ (i o:Nat) (k:List V→Option β):A8 (.own i o) k = k [.own i o]:=rfl
theorem aGJ (x:dL):tT T d (.box x) fr bl k kw = dK bl d fun b=>jC b (dX fr x fun v=>A8 v fun cs=>kw (.ptr d 0) [(d,some (.box cs))]):=by
 unfold tT dK jC dX A8
 simp only [eG]
 cases lk bl none d with
 | none =>
  simp only
  by_cases h:(cU (lk fr .any) x).known = true
  ·rw [if_pos h,if_pos h]
  ·rw [if_neg h,if_neg h]
 | some b=>rfl
def FG (fr:List (Nat × V)):List dL→(List V→Option β)→Option β
 | [],k=>k []
 | x :: l,k=>dX fr x fun v=>FG fr l fun vs=>k (v :: vs)
theorem R8 (l:List dL) (k:List V→Option β):FG fr l k = k (l.map (cU (lk fr .any))):=by
 induction l generalizing k with
 | nil=>rfl
 | cons x l ih=>simp only [FG,dX,ih,List.map_cons]
theorem aA4 (k:List V→Option β):FG fr [] k = k []:=rfl
theorem WG (x:dL) (l:List dL) (k:List V→Option β):FG fr (x :: l) k = dX fr x fun v=>FG fr l fun vs=>k (v :: vs):=rfl
def ER (fr:List (Nat × V)):List (Nat × Nat × dL)→(List (Nat × Nat × V)→Option β)→Option β
 | [],k=>k []
 | (o,s,x) :: l,k=>dX fr x fun v=>ER fr l fun vs=>k ((o,s,v) :: vs)
theorem k7 (op:jB):tT T d op fr bl k kw = yS (eG (call T) d (cU (lk fr .any)) (lk bl none) op) k kw:=by
 unfold tT yS
 cases eG (call T) d (cU (lk fr .any)) (lk bl none) op with
 | none=>rfl
 | some r=>obtain ⟨v,wr⟩:=r; cases wr <;> rfl
theorem DX (r:FC):yS r k kw = FZ r fun v wr=>match wr with | []=>k v | p :: w=>kw v (p :: w):=by
 cases r with
 | none=>rfl
 | some r=>obtain ⟨v,wr⟩:=r; cases wr <;> rfl
def CK:List V→Nat→(V→Option β)→Option β
 | [],_,_=>none
 | c :: _,0,k=>k c
 | _ :: cs,n + 1,k=>CK cs n k
theorem LZ (cs:List V) (n:Nat) (k:V→Option β):CK cs n k = cs[n]?.bind k:=by
 induction cs generalizing n with
 | nil=>rfl
 | cons c cs ih=>cases n with
  | zero=>rfl
  | succ n=>simp only [CK,ih,List.getElem?_cons_succ]
theorem aHs (c:V) (cs:List V) (k:V→Option β):CK (c :: cs) 0 k = k c:=rfl
theorem aGV (c:V) (cs:List V) (n:Nat) (k:V→Option β):CK (c :: cs) (n + 1) k = CK cs n k:=rfl
def iF (ds:List D) (n:Nat) (k:D→Option β):Option β:=ds[n]?.bind k
def vR (ds:List D) (off size:Nat) (k:List D→Option β):Option β:=if off + size ≤ ds.length then k ((ds.drop off).take size) else none
def IJ (cs:List V) (off size:Nat) (k:List V→Option β):Option β:=if off + size ≤ cs.length then k ((cs.drop off).take size) else none
theorem aF0 (ds:List D) (n:Nat) (k:V→Option β):CK (bQ ds) n k = iF ds n fun x=>k (.d x):=by
 rw [LZ]
 unfold bQ iF
 rw [List.getElem?_map]
 cases ds[n]? <;> rfl
theorem aAw (cs:List V) (n:Nat) (k:List V→Option β) (h:cs.length = n):IJ cs 0 n k = k cs:=by
 subst h
 simp [IJ]
theorem aG7 (ds:List D) (off n:Nat) (k:List V→Option β):IJ (bQ ds) off n k = vR ds off n fun l=>k (bQ l):=by
 unfold IJ vR bQ
 simp only [List.length_map,List.map_take,List.map_drop]
def BE (size:Nat) (isAgg:Bool) (off:Nat) (b:Option aL) (k:V→Option β):Option β:=match b with
 | some (.box cs)=>if isAgg = true then IJ cs off size fun l=>k (.agg l) else CK cs off k
 | some (.fbox row)=>if isAgg = true then vR row off size fun l=>k (n9 l) else iF row off fun x=>k (.d x)
 | _=>none
def J6 (size:Nat) (isAgg:Bool) (ver i off:Nat) (b:Option aL) (k:V→Option β):Option β:=match b with
 | some (.rows v e sz rows)=>if ver = v then rows[i]?.bind fun row=>(if isAgg = true then vR row off size fun l=>k (n9 l) else iF row off fun x=>k (.d x)) else none
 | _=>none
def wU (size:Nat) (isAgg:Bool) (x:V) (bl:List (Nat × Option aL)) (k:V→Option β):Option β:=match x with
 | .ptr id off=>dK bl id fun b=>BE size isAgg off b k
 | .d (.ptr row off)=>if isAgg = true then vR row off size fun l=>k (n9 l) else iF row off fun x=>k (.d x)
 | .orow id ver i off=>dK bl id fun b=>J6 size isAgg ver i off b k
 | _=>none
theorem R4 (size:Nat) (isAgg:Bool) (x:dL):tT T d (.load size isAgg x) fr bl k kw = dX fr x fun v=>wU size isAgg v bl k:=by
 rw [k7,B9]
 unfold dX
 generalize cU (lk fr .any) x = v
 have hD:∀ row off,yS (S5 size isAgg off row) k kw = if isAgg = true then vR row off size fun l=>k (n9 l) else iF row off fun x=>k (.d x):=by
  intro row off
  unfold S5
  cases isAgg with
  | true=>simp only [if_true,vR]; split <;> rfl
  | false=>simp only [Bool.false_eq_true,if_false,iF]; cases row[off]? <;> rfl
 cases v with
 | ptr id off =>
  rw [aAA]
  simp only [wU,dK]
  generalize lk bl none id = b
  cases b with
  | none=>rfl
  | some b=>cases b with
   | box cs =>
    cases isAgg with
    | true=>simp only [aFP,BE,if_true,IJ]; split <;> rfl
    | false=>simp only [aHR,BE,Bool.false_eq_true,if_false,LZ]; cases cs[off]? <;> rfl
   | fbox row=>exact hD row off
   | _=>rfl
 | d x=>cases x with
  | ptr row off=>exact hD row off
  | _=>rfl
 | orow id ver i off =>
  rw [aGp]
  simp only [wU,dK]
  generalize lk bl none id = b
  cases b with
  | none=>rfl
  | some b=>cases b with
   | rows v e sz rows =>
    simp only [aCa,J6]
    split
    ·cases rows[i]? with
     | none=>rfl
     | some row=>exact hD row off
    ·rfl
   | _=>rfl
 | _=>rfl
theorem ZC (size:Nat) (isAgg:Bool) (id off:Nat):wU size isAgg (.ptr id off) bl k = dK bl id fun b=>BE size isAgg off b k:=rfl
theorem aCc (size:Nat) (row:List D) (off:Nat):wU size true (.d (.ptr row off)) bl k = vR row off size fun l=>k (n9 l):=rfl
theorem aD7 (size:Nat) (row:List D) (off:Nat):wU size false (.d (.ptr row off)) bl k = iF row off fun x=>k (.d x):=rfl
theorem aHh (size:Nat) (isAgg:Bool) (id ver i off:Nat):wU size isAgg (.orow id ver i off) bl k = dK bl id fun b=>J6 size isAgg ver i off b k:=rfl
theorem aBI (size off:Nat) (row:List D):BE size true off (some (.fbox row)) k = vR row off size fun l=>k (n9 l):=rfl
theorem Y5 (size off:Nat) (row:List D):BE size false off (some (.fbox row)) k = iF row off fun x=>k (.d x):=rfl
theorem aC9 (size off:Nat) (cs:List V):BE size false off (some (.box cs)) k = CK cs off k:=rfl
theorem aDH (size off:Nat) (c:V) (cs:List V):BE size true off (some (.box (c :: cs))) k = IJ (c :: cs) off size fun l=>k (.agg l):=rfl
theorem aCy (size off:Nat) (ds:List D):BE size true off (some (.box (bQ ds))) k = vR ds off size fun l=>k (n9 l):=by
 show IJ (bQ ds) off size (fun l=>k (.agg l)) = _
 rw [aG7]; rfl
theorem Q6 {α:Type} (size:Nat) (isAgg:Bool) (v i off e sz:Nat) (c:α→List D) (xs:List α):J6 size isAgg v i off (some (.rows v e sz (cM c xs))) k = xs[i]?.bind fun x=>wU size isAgg (.d (.ptr (c x) off)) [] k:=by
 simp only [J6,if_true,cM,List.getElem?_map]
 cases xs[i]? <;> rfl
def EI:List V→Nat→V→(List V→Option β)→Option β
 | [],_,_,_=>none
 | _ :: cs,0,v,k=>k (v :: cs)
 | c :: cs,n + 1,v,k=>EI cs n v fun l=>k (c :: l)
theorem aCL (cs:List V) (n:Nat) (v:V) (k:List V→Option β):EI cs n v k = if n + 1 ≤ cs.length then k (jU cs n [v]) else none:=by
 induction cs generalizing n k with
 | nil=>rfl
 | cons c cs ih=>cases n with
  | zero=>rw [if_pos (by simp)]; cases cs <;> rfl
  | succ n =>
   simp only [EI,ih,jU,List.length_cons]
   by_cases h:n + 1 ≤ cs.length
   ·rw [if_pos h,if_pos (by omega)]
   ·rw [if_neg h,if_neg (by omega)]
theorem aFA (c:V) (cs:List V) (v:V) (k:List V→Option β):EI (c :: cs) 0 v k = k (v :: cs):=rfl
theorem aGs (c:V) (cs:List V) (n:Nat) (v:V) (k:List V→Option β):EI (c :: cs) (n + 1) v k = EI cs n v fun l=>k (c :: l):=rfl
def uH (cs:List V) (off:Nat) (ws:List V) (k:List V→Option β):Option β:=if off + ws.length ≤ cs.length then k (jU cs off ws) else none
theorem OD {α:Type} (l:List α) (n:Nat):jU l n [] = l:=by cases l <;> rfl
theorem T6 (c:V) (cs:List V) (off:Nat) (ws:List V) (k:List V→Option β) (hw:ws ≠ []):uH (c :: cs) (off + 1) ws k = uH cs off ws fun l=>k (c :: l):=by
 unfold uH
 cases ws with
 | nil=>exact absurd rfl hw
 | cons w ws =>
  simp only [List.length_cons,jU]
  by_cases h:off + (ws.length + 1) ≤ cs.length
  ·rw [if_pos h,if_pos (by omega)]
  ·rw [if_neg h,if_neg (by omega)]
theorem WE (c:V) (cs:List V) (w:V) (ws:List V) (k:List V→Option β):uH (c :: cs) 0 (w :: ws) k = uH cs 0 ws fun l=>k (w :: l):=by
 unfold uH
 simp only [List.length_cons,jU]
 by_cases h:0 + ws.length ≤ cs.length
 ·rw [if_pos h,if_pos (by omega)]
 ·rw [if_neg h,if_neg (by omega)]
theorem XE (cs:List V) (k:List V→Option β):uH cs 0 [] k = k cs:=by simp [uH,OD]
def oJ (size off id:Nat) (v:V) (b:Option aL) (kw:V→List (Nat × Option aL)→Option β):Option β:=match b with
 | some (.box cs)=>if v.cells.length = size ∧ off + size ≤ cs.length ∧ v.known = true then kw .any [(id,some (.box (jU cs off v.cells)))] else none
 | _=>none
def F8 (size ver i off id:Nat) (v:V) (bl:List (Nat × Option aL)) (b:Option aL) (kw:V→List (Nat × Option aL)→Option β):Option β:=FZ (LX size ver i off id (sG (lk bl none) v) (bB (l9 (lk bl none)) v.cells) b) kw
def KU (size:Nat) (p v:V) (bl:List (Nat × Option aL)) (kw:V→List (Nat × Option aL)→Option β):Option β:=match p with
 | .ptr id off=>dK bl id fun b=>oJ size off id v b kw
 | .orow id ver i off=>dK bl id fun b=>F8 size ver i off id v bl b kw
 | _=>none
theorem aBm (size:Nat) (x v:dL):tT T d (.store size x v) fr bl k kw = dX fr x fun p=>dX fr v fun w=>KU size p w bl kw:=by
 rw [k7,aAn]
 unfold dX
 generalize cU (lk fr .any) x = p
 generalize cU (lk fr .any) v = w
 cases p with
 | ptr id off =>
  rw [aCr]
  simp only [KU,dK]
  generalize lk bl none id = b
  cases b with
  | none=>rfl
  | some b=>cases b with
   | box cs =>
    simp only [V6,oJ]
    by_cases h:w.cells.length = size ∧ off + size ≤ cs.length ∧ w.known = true
    ·rw [if_pos h,if_pos h]; rfl
    ·rw [if_neg h,if_neg h]; rfl
   | _=>rfl
 | orow id ver i off =>
  rw [aDN]
  simp only [KU,dK,F8]
  rw [DX]
  generalize lk bl none id = b
  cases b with
  | none=>rfl
  | some b=>cases b with
   | rows v e sz rows =>
    simp only [LX]
    by_cases h:ver = v
    ·rw [if_pos h]
     cases rows[i]? with
     | none=>rfl
     | some row =>
      cases bB (l9 (lk bl none)) w.cells with
      | none=>rfl
      | some ds =>
       simp only
       split <;> rfl
    ·rw [if_neg h]; rfl
   | _=>rfl
 | _=>rfl
theorem aDV (size id off:Nat) (v:V):KU size (.ptr id off) v bl kw = dK bl id fun b=>oJ size off id v b kw:=rfl
theorem aEI (size id ver i off:Nat) (v:V):KU size (.orow id ver i off) v bl kw = dK bl id fun b=>F8 size ver i off id v bl b kw:=rfl
theorem HN (off id:Nat) (w c:V) (cs:List V) (hw:w.one = true) (hk:w.known = true):oJ 1 off id w (some (.box (c :: cs))) kw = EI (c :: cs) off w fun l=>kw .any [(id,some (.box l))]:=by
 have hc:w.cells = [w]:=by cases w <;> first | rfl | cases hw
 rw [aCL]
 simp only [oJ,hc,hk]
 by_cases h:off + 1 ≤ (c :: cs).length
 ·rw [if_pos h,if_pos ⟨rfl,h,trivial⟩]
 ·rw [if_neg h,if_neg (fun q=>h q.2.1)]
theorem ZA (off id:Nat) (x:D) (c:V) (cs:List V):oJ 1 off id (.d x) (some (.box (c :: cs))) kw = EI (c :: cs) off (.d x) fun l=>kw .any [(id,some (.box l))]:=HN off id _ c cs rfl rfl
theorem QV (off id i v:Nat) (c:V) (cs:List V):oJ 1 off id (.own i v) (some (.box (c :: cs))) kw = EI (c :: cs) off (.own i v) fun l=>kw .any [(id,some (.box l))]:=HN off id _ c cs rfl rfl
def FE (cs:List V) (n:Nat) (x:Option β):Option β:=if cs.length = n then x else none
theorem aGg (x:Option β):FE [] 0 x = x:=rfl
theorem aFo (c:V) (cs:List V) (n:Nat) (x:Option β):FE (c :: cs) (n + 1) x = FE cs n x:=by
 unfold FE
 simp only [List.length_cons]
 by_cases h:cs.length = n
 ·rw [if_pos h,if_pos (by omega)]
 ·rw [if_neg h,if_neg (by omega)]
theorem R6 (size off id:Nat) (ws:List V) (c:V) (cs:List V):oJ size off id (.agg ws) (some (.box (c :: cs))) kw = FE ws size (uH (c :: cs) off ws fun l=>kw .any [(id,some (.box l))]):=by
 unfold FE uH
 show (if ws.length = size ∧ off + size ≤ (c :: cs).length ∧ V.known (.agg ws) = true then kw .any [(id,some (.box (jU (c :: cs) off ws)))] else none) = _
 by_cases h:ws.length = size
 ·subst h
  rw [if_pos rfl]
  by_cases h:off + ws.length ≤ (c :: cs).length
  ·rw [if_pos h,if_pos ⟨rfl,h,rfl⟩]
  ·rw [if_neg h,if_neg (fun q=>h q.2.1)]
 ·rw [if_neg h,if_neg (fun q=>h q.1)]
theorem N1 {α:Type}:∀ (l m:List α),l.length = m.length→jU l 0 m = m
 | [],[],_=>rfl
 | _ :: l,x :: m,h=>by
  simp only [jU]
  rw [N1 l m (by simpa using h)]
 | [],_ :: _,h=>by simp at h
 | _ :: _,[],h=>by simp at h
theorem oS (n id:Nat) (ds:List D) (hd:ds.length = n) (cs:List V) (hc:cs.length = n):oJ n 0 id (n9 ds) (some (.box cs)) kw = kw .any [(id,some (.box (bQ ds)))]:=by
 have e:(bQ ds).length = n:=by rw [← hd]; simp [bQ]
 show (if (bQ ds).length = n ∧ 0 + n ≤ cs.length ∧ V.known (n9 ds) = true then kw .any [(id,some (.box (jU cs 0 (bQ ds))))] else none) = _
 rw [if_pos ⟨e,by omega,rfl⟩,N1 _ _ (by rw [hc,e])]
def aJB (v:V) (bl:List (Nat × Option aL)) (k:V→Option β):Option β:=match v with
 | .ptr id off=>k (.ptr id off)
 | .d (.ptr row off)=>k (.d (.ptr row off))
 | .orow id ver i off=>dK bl id fun b=>match b with
  | some (.rows v _ _ _)=>if ver = v then k (.orow id ver i off) else none
  | _=>none
 | _=>none
theorem QJ (x:dL):tT T d (.nilCheck x) fr bl k kw = dX fr x fun v=>aJB v bl k:=by
 unfold tT dX
 simp only [eG]
 generalize cU (lk fr .any) x = v
 cases v with
 | d x=>cases x <;> rfl
 | orow id ver i off =>
  simp only [aJB,dK]
  generalize lk bl none id = b
  cases b with
  | none=>rfl
  | some b=>cases b with
   | rows v e s rows=>simp only; by_cases h:ver = v <;> simp [h]
   | _=>rfl
 | _=>rfl
theorem aJy (id off:Nat):aJB (.ptr id off) bl k = k (.ptr id off):=rfl
def YW (id ver i off:Nat) (b:Option aL) (k:V→Option β):Option β:=match b with
 | some (.rows v _ _ _)=>if ver = v then k (.orow id ver i off) else none
 | _=>none
theorem aHb (id ver i off e s:Nat) (rows:List (List D)):YW id ver i off (some (.rows ver e s rows)) k = k (.orow id ver i off):=if_pos rfl
def faK (off:Nat) (v:V) (bl:List (Nat × Option aL)) (k:V→Option β):Option β:=match v with
 | .ptr id o=>k (.ptr id (o + off))
 | .d (.ptr row o)=>k (.d (.ptr row (o + off)))
 | .orow id ver i o=>dK bl id fun b=>YW id ver i (o + off) b k
 | _=>none
theorem M4 (off:Nat) (x:dL):tT T d (.fieldAddr off x) fr bl k kw = dX fr x fun v=>faK off v bl k:=by
 unfold tT dX
 simp only [eG]
 generalize cU (lk fr .any) x = v
 cases v with
 | d x=>cases x <;> rfl
 | orow id ver i o =>
  simp only [faK,dK]
  generalize lk bl none id = b
  cases b with
  | none=>rfl
  | some b=>cases b with
   | rows v e s rows=>simp only [YW]; by_cases h:ver = v <;> simp [h]
   | _=>rfl
 | _=>rfl
theorem aKN (off id o:Nat):faK off (.ptr id o) bl k = k (.ptr id (o + off)):=rfl
theorem aKU (off:Nat) (row:List D) (o:Nat):faK off (.d (.ptr row o)) bl k = k (.d (.ptr row (o + off))):=rfl
theorem aKz (off id ver i o:Nat):faK off (.orow id ver i o) bl k = dK bl id fun b=>YW id ver i (o + off) b k:=rfl
def AU (c:Nat) (op:BinOp) (a b:V) (k:V→Option β):Option β:=(BU c op a b).bind fun x=>k (.d x)
theorem aFU (c:Nat) (op:BinOp) (x y:dL):tT T d (.bin c op x y) fr bl k kw = dX fr x fun a=>dX fr y fun b=>AU c op a b k:=by
 rw [k7]
 exact PA _
section
variable (kd:IntKind) (x y:Int)
theorem aDz:AU 0 .add (.d (.int kd x)) (.d (.int kd y)) k = k (.d (.int kd (IntKind.wrap kd (x + y)))):=by simp [AU,BU,sQ]
theorem aCh:AU 0 .sub (.d (.int kd x)) (.d (.int kd y)) k = k (.d (.int kd (IntKind.wrap kd (x - y)))):=by simp [AU,BU,sQ]
theorem aCe:AU 0 .rem (.d (.int kd x)) (.d (.int kd y)) k = if y = 0 then none else k (.d (.int kd (x.tmod y))):=by
 simp only [AU,BU,sQ,if_true]; split <;> rfl
theorem aDG:AU 0 .eql (.d (.int kd x)) (.d (.int kd y)) k = k (.d (.bool (x == y))):=by simp [AU,BU,sQ]
theorem aCm:AU 0 .neq (.d (.int kd x)) (.d (.int kd y)) k = k (.d (.bool (x != y))):=by simp [AU,BU,sQ]
theorem aBZ:AU 0 .lss (.d (.int kd x)) (.d (.int kd y)) k = k (.d (.bool (decide (x < y)))):=by simp [AU,BU,sQ]
theorem aCR:AU 0 .leq (.d (.int kd x)) (.d (.int kd y)) k = k (.d (.bool (decide (x ≤ y)))):=by simp [AU,BU,sQ]
theorem aCi:AU 0 .gtr (.d (.int kd x)) (.d (.int kd y)) k = k (.d (.bool (decide (x > y)))):=by simp [AU,BU,sQ]
theorem aDe:AU 0 .geq (.d (.int kd x)) (.d (.int kd y)) k = k (.d (.bool (decide (x ≥ y)))):=by simp [AU,BU,sQ]
end
section
variable (x y:ByteArray)
end
def WW (o:Option D) (k:V→Option β):Option β:=o.bind fun x=>k (.d x)
theorem AQ {o o' : Option D} {k:V→Option β} (h:o = o'):WW o k = WW o' k:=by rw [h]
theorem aHN (ks:List Nat) (neg:Bool) (x y:dL):tT T d (.eqS ks neg x y) fr bl k kw = dX fr x fun a=>dX fr y fun b=>WW (eqV ks neg a b) k:=by
 rw [k7]
 exact PA _
def xC:List Nat→List V→List V→(Bool→Option β)→Option β:=fun ks xs ys k=>match gQ ks xs ys with
 | some b=>k b
 | none=>none
def aDq (ks:List Nat) (neg:Bool) (a b:V) (k:V→Option β):Option β:=match a,b with
 | .agg xs,.agg ys=>xC ks xs ys fun b=>k (.d (.bool (if neg then !b else b)))
 | _,_=>none
theorem aG0 (ks:List Nat) (neg:Bool) (x y:dL):tT T d (.eqS ks neg x y) fr bl k kw = dX fr x fun a=>dX fr y fun b=>aDq ks neg a b k:=by
 rw [aHN]
 unfold dX
 generalize cU (lk fr .any) x = a
 generalize cU (lk fr .any) y = b
 cases a with
 | agg xs=>cases b with
  | agg ys =>
   simp only [eqV,aDq,xC,WW]
   cases gQ ks xs ys <;> rfl
  | _=>rfl
 | _=>cases b <;> rfl
section
variable {k:V→Option β}
theorem aDl (ks:List Nat) (xs:List V) (ys:List D):aDq ks true (.agg xs) (n9 ys) k = xC ks xs (bQ ys) fun b=>k (.d (.bool !b)):=rfl
theorem aB9 (ks:List Nat) (xs ys:List D):aDq ks true (n9 xs) (n9 ys) k = xC ks (bQ xs) (bQ ys) fun b=>k (.d (.bool !b)):=rfl
theorem aEv (ks:List Nat) (xs ys:List D):aDq ks false (n9 xs) (n9 ys) k = xC ks (bQ xs) (bQ ys) fun b=>k (.d (.bool b)):=rfl
end
section
variable {k:Bool→Option β}
theorem aHB (kd:IntKind) (x y:Int):xC [0] [.d (.int kd x)] [.d (.int kd y)] k = k (x == y):=by simp [xC,gQ,yC]
theorem aJn (kd:IntKind) (x y:Int) (c:Nat) (ks:List Nat) (xs ys:List V):xC (0 :: c :: ks) (.d (.int kd x) :: xs) (.d (.int kd y) :: ys) k = xC (c :: ks) xs ys fun b=>k ((x == y) && b):=by
 simp only [xC,gQ,yC,if_true]
 cases gQ (c :: ks) xs ys <;> rfl
end
def aDQ (kd:IntKind) (x:Int):List V→(V→Option β)→Option β:=fun l k=>WW (U0 kd x l) k
def aIe (l:List V) (k:V→Option β):Option β:=WW (aFc l) k
theorem aHk (l:List dL):tT T d (.min l) fr bl k kw = FG fr l fun vs=>aIe vs k:=by
 rw [k7,R8]
 exact PA _
section
variable {k:V→Option β}
theorem aHc (kd:IntKind) (x:Int) (l:List V):aIe (.d (.int kd x) :: l) k = aDQ kd x l k:=rfl
theorem aEp (kd:IntKind) (x:Int):aDQ kd x [] k = k (.d (.int kd x)):=rfl
theorem aBu (kd:IntKind) (x y:Int) (l:List V):aDQ kd x (.d (.int kd y) :: l) k = aDQ kd (if y < x then y else x) l k:=by simp [aDQ,U0]
end
def unK (op:UnOp) (v:V) (k:V→Option β):Option β:=WW (unV op v) k
theorem aIy (op:UnOp) (x:dL):tT T d (.un op x) fr bl k kw = dX fr x fun a=>unK op a k:=by
 rw [k7]
 exact PA _
theorem aGt (b:Bool):unK .not (.d (.bool b)) k = k (.d (.bool !b)):=rfl
theorem aGL (kd:IntKind) (n:Int):unK .neg (.d (.int kd n)) k = k (.d (.int kd (IntKind.wrap kd (0 - n)))):=rfl
def aH7 (kd:IntKind) (v:V) (k:V→Option β):Option β:=match v with
 | .d (.int _ n)=>k (.d (.int kd (IntKind.wrap kd n)))
 | _=>none
theorem aDd (kd:IntKind) (x:dL):tT T d (.conv kd x) fr bl k kw = dX fr x fun a=>aH7 kd a k:=by
 unfold tT dX
 simp only [eG]
 generalize cU (lk fr .any) x = v
 cases v with
 | d x=>cases x <;> rfl
 | _=>rfl
theorem aGX (kd kd' : IntKind) (n:Int):aH7 kd (.d (.int kd' n)) k = k (.d (.int kd (IntKind.wrap kd n))):=rfl
def EG (v:V) (bl:List (Nat × Option aL)) (k:List (List D)→Option β):Option β:=(kO (lk bl none) v).bind k
def HF (ver:Nat) (b:Option aL) (k:List (List D)→Option β):Option β:=(aH8 ver b).bind k
theorem aDI (rows:List (List D)) (k:List (List D)→Option β):EG (.d (.sl rows)) bl k = k rows:=rfl
theorem ZJ (k:List (List D)→Option β):EG .nil bl k = k []:=rfl
theorem OI (id ver:Nat) (k:List (List D)→Option β):EG (.own id ver) bl k = dK bl id fun b=>HF ver b k:=by
 unfold EG dK HF
 simp only [kO]
 generalize lk bl none id = b
 cases b with
 | none=>rfl
 | some b=>cases b <;> rfl
theorem H0 (v e s:Nat) (rows:List (List D)) (k:List (List D)→Option β):HF v (some (.rows v e s rows)) k = k rows:=by simp [HF,aH8]
theorem aHH (x:dL):tT T d (.len x) fr bl k kw = dX fr x fun a=>EG a bl fun rows=>k (.d (.int .i64 rows.length)):=by
 unfold tT dX EG
 simp only [eG]
 cases kO (lk bl none) (cU (lk fr .any) x) <;> rfl
def tL (ds:List D) (n:Nat) (x:Option β):Option β:=if ds.length = n then x else none
def aCE (size:Nat) (x i:V) (bl:List (Nat × Option aL)) (k:V→Option β):Option β:=yS (P9 size x i (lk bl none)) k fun _ _=>none
theorem Z1 {size:Nat} {x i:V} {b:Nat→Option aL} {kw' : V→List (Nat × Option aL)→Option β}:yS (P9 size x i b) k kw = yS (P9 size x i b) k kw':=by
 have:∀ r,P9 size x i b = some r→r.2 = []:=by
  intro r
  unfold P9
  intro e
  repeat' split at e
  all_goals first | cases e; rfl | cases e
 cases h:P9 size x i b with
 | none=>rfl
 | some r=>obtain ⟨v,wr⟩:=r; have:=this _ h; dsimp only at this; subst this; rfl
theorem MZ (size:Nat) (x i:dL):tT T d (.indexAddr size x i) fr bl k kw = dX fr x fun a=>dX fr i fun b=>aCE size a b bl k:=by
 rw [k7,M9]
 unfold dX aCE
 exact Z1
theorem aGm {α:Type} (size:Nat) (c:α→List D) (xs:List α) (kd:IntKind) (n:Int):aCE size (.d (.sl (cM c xs))) (.d (.int kd n)) bl k = (at? xs n).bind fun x=>tL (c x) size (k (.d (.ptr (c x) 0))):=by
 unfold aCE
 rw [DX,aG6]
 rfl
def aB4 (size id ver:Nat) (n:Int) (b:Option aL) (k:V→Option β):Option β:=yS (aIk size id ver n b) k fun _ _=>none
theorem aC7 (size id ver:Nat) (kd:IntKind) (n:Int):aCE size (.own id ver) (.d (.int kd n)) bl k = dK bl id fun b=>aB4 size id ver n b k:=rfl
theorem XD {α:Type} (size id v e:Nat) (n:Int) (c:α→List D) (xs:List α):aB4 size id v n (some (.rows v e size (cM c xs))) k = if 0 ≤ n ∧ n.toNat < xs.length then k (.orow id v n.toNat 0) else none:=by
 unfold aB4
 rw [DX,aAk,if_pos rfl,if_pos rfl,aK]
def aFv (fr:List (Nat × V)) (o:Option dL) (k:Option V→Option β):Option β:=match o with
 | none=>k none
 | some x=>dX fr x fun v=>k (some v)
theorem aJE (k:Option V→Option β):aFv fr none k = k none:=rfl
theorem aJq (x:dL) (k:Option V→Option β):aFv fr (some x) k = dX fr x fun v=>k (some v):=rfl
def JZ (size:Nat) (x:V) (lo hi:Option V) (bl:List (Nat × Option aL)) (k:V→Option β) (kw:V→List (Nat × Option aL)→Option β):Option β:=yS (AR (lk bl none) size x lo hi) k kw
theorem aAa (size:Nat) (x:dL) (lo hi:Option dL):tT T d (.slice size x lo hi) fr bl k kw = dX fr x fun a=>aFv fr lo fun l=>aFv fr hi fun h=>JZ size a l h bl k kw:=by
 rw [k7,Z3]
 cases lo <;> cases hi <;> rfl
section
variable {α:Type} (size:Nat) (c:α→List D) (xs:List α) (hs:sized size (cM c xs) = true)
include hs
theorem N9 {lo hi:Option V} {l h:Int} (hl:HH lo 0 = some l) (hh:HH hi (xs.length:Int) = some h):JZ size (.d (.sl (cM c xs))) lo hi bl k kw = if v8 xs.length l h then k (.d (.sl (cM c (EN xs l h)))) else none:=by
 unfold JZ
 rw [DX,aAx _ size c xs lo hi l h hl hh hs]
theorem aAv (kd:IntKind) (l:Int):JZ size (.d (.sl (cM c xs))) (some (.d (.int kd l))) none bl k kw = if v8 xs.length l (xs.length:Int) then k (.d (.sl (cM c (EN xs l (xs.length:Int))))) else none:=N9 size c xs hs rfl rfl
theorem aAj (kd:IntKind) (h:Int):JZ size (.d (.sl (cM c xs))) none (some (.d (.int kd h))) bl k kw = if v8 xs.length 0 h then k (.d (.sl (cM c (EN xs 0 h)))) else none:=N9 size c xs hs rfl rfl
end
def JS (e size bytes d:Nat) (x y:V) (bl:List (Nat × Option aL)) (kw:V→List (Nat × Option aL)→Option β):Option β:=EG y bl fun new =>
 if sized size new = true then
   match x with
   | .nil=>dK bl d fun b=>jC b (if new.length * bytes ≤ 140737488355328 then kw (.own d 0) [(d,some (.rows 0 e size new))] else none)
   | .own id ver=>dK bl id fun b=>match b with
    | some (.rows v e' size' rows)=>if ver = v ∧ e' = e ∧ size' = size ∧ (rows.length + new.length) * bytes ≤ 140737488355328 then kw (.own id (ver + 1)) [(id,some (.rows (ver + 1) e size (rows ++ new)))] else none
    | _=>none
   | _=>none
   else none
theorem WS (e size bytes:Nat) (x y:dL):tT T d (.append e size bytes x y) fr bl k kw = dX fr x fun a=>dX fr y fun b=>JS e size bytes d a b bl kw:=by
 unfold tT dX JS EG dK jC
 simp only [eG]
 generalize cU (lk fr .any) x = v
 cases kO (lk bl none) (cU (lk fr .any) y) with
 | none=>rfl
 | some new =>
  simp only [Option.bind_some]
  by_cases hs:sized size new = true
  ·rw [if_pos hs,if_pos hs]
   cases v with
   | nil =>
    simp only
    cases lk bl none d with
    | none =>
     simp only
     by_cases h:new.length * bytes ≤ 140737488355328
     ·rw [if_pos h,if_pos h]
     ·rw [if_neg h,if_neg h]
    | some b=>rfl
   | own id ver =>
    simp only
    generalize lk bl none id = b
    cases b with
    | none=>rfl
    | some b=>cases b with
     | rows v e' size' rows =>
      simp only
      by_cases h:ver = v ∧ e' = e ∧ size' = size ∧ (rows.length + new.length) * bytes ≤ 140737488355328
      ·rw [if_pos h,if_pos h]
      ·rw [if_neg h,if_neg h]
     | _=>rfl
   | _=>rfl
  ·rw [if_neg hs,if_neg hs]
def OU {α:Type} (e size bytes d:Nat) (x:V) (c:α→List D) (ys:List α) (bl:List (Nat × Option aL)) (kw:V→List (Nat × Option aL)→Option β):Option β:=match x with
   | .nil=>dK bl d fun b=>jC b (if ys.length * bytes ≤ 140737488355328 then kw (.own d 0) [(d,some (.rows 0 e size (cM c ys)))] else none)
   | .own id ver=>dK bl id fun b=>match b with
    | some (.rows v e' size' rows)=>if ver = v ∧ e' = e ∧ size' = size ∧ (rows.length + ys.length) * bytes ≤ 140737488355328 then kw (.own id (ver + 1)) [(id,some (.rows (ver + 1) e size (rows ++ cM c ys)))] else none
    | _=>none
   | _=>none
theorem N4 {α:Type} (e size bytes d:Nat) (x y:V) (c:α→List D) (ys:List α) (hy:∀ k' : List (List D)→Option β,EG y bl k' = k' (cM c ys)) (hs:sized size (cM c ys) = true):JS e size bytes d x y bl kw = OU e size bytes d x c ys bl kw:=by
 unfold JS OU
 rw [hy,if_pos hs,aK]
theorem Y1 {α:Type} (e size bytes d:Nat) (x:V) (c:α→List D) (ys:List α) (hs:sized size (cM c ys) = true):JS e size bytes d x (.d (.sl (cM c ys))) bl kw = OU e size bytes d x c ys bl kw:=N4 e size bytes d x _ c ys (fun _=>rfl) hs
def aCH (e size bytes d:Nat) (x:V) (ver:Nat) (b:Option aL) (bl:List (Nat × Option aL)) (kw:V→List (Nat × Option aL)→Option β):Option β:=HF ver b fun new=>JS e size bytes d x (.d (.sl new)) bl kw
theorem aEk (e size bytes d id ver:Nat) (x:V):JS e size bytes d x (.own id ver) bl kw = dK bl id fun b=>aCH e size bytes d x ver b bl kw:=by
 show JS e size bytes d x (.own id ver) bl kw = HF ver (lk bl none id) fun new=>JS e size bytes d x (.d (.sl new)) bl kw
 unfold JS
 rw [OI]
 rfl
theorem XM {α:Type} (e size bytes d v e' s' : Nat) (x:V) (c:α→List D) (ys:List α) (hs:sized size (cM c ys) = true):aCH e size bytes d x v (some (.rows v e' s' (cM c ys))) bl kw = OU e size bytes d x c ys bl kw:=by
 unfold aCH
 rw [H0,Y1 _ _ _ _ _ _ _ hs]
def aCk {α:Type} (e size bytes id ver:Nat) (c:α→List D) (ys:List α) (b:Option aL) (kw:V→List (Nat × Option aL)→Option β):Option β:=match b with
    | some (.rows v e' size' rows)=>if ver = v ∧ e' = e ∧ size' = size ∧ (rows.length + ys.length) * bytes ≤ 140737488355328 then kw (.own id (ver + 1)) [(id,some (.rows (ver + 1) e size (rows ++ cM c ys)))] else none
    | _=>none
theorem aAL {α:Type} (e size bytes d id ver:Nat) (c:α→List D) (ys:List α):OU e size bytes d (.own id ver) c ys bl kw = dK bl id fun b=>aCk e size bytes id ver c ys b kw:=rfl
theorem VQ {α:Type} (e size bytes id v:Nat) (c:α→List D) (xs ys:List α):aCk e size bytes id v c ys (some (.rows v e size (cM c xs))) kw = if (xs.length + ys.length) * bytes ≤ 140737488355328 then kw (.own id (v + 1)) [(id,some (.rows (v + 1) e size (cM c (xs ++ ys))))] else none:=by
 simp only [aCk,true_and,aK,ZF]
def NR (e:Nat) (rows:List (List D)) (k:List (List D)→Option β):Option β:=k rows
def O6 (v:V) (bl:List (Nat × Option aL)) (k:List D→List (Nat × Option aL)→Option β):Option β:=match bB (l9 (lk bl none)) v.cells with
 | some row=>k row (sG (lk bl none) v)
 | none=>none
end
section
end
end
end Vm
end Go.Proofs.Ytiimibimkpimbaa
