/- The small machine's code, read from the front: what is left to do stands in a continuation. Equations by which the small machine's code is read (they are named in the proofs that a program prints). The small machine, read from the front by rewriting at the head only: every value is looked up before it is used. -/
import Derived.Test.YtiimibimkpimbaaVmD
set_option linter.unusedVariables false
set_option linter.unusedSimpArgs false
namespace Go.Proofs.Ytiimibimkpimbaa
namespace Vm
open Go.RowKit
section
variable {β:Type}
noncomputable def eG (T:vT) (c:aT) (s:St) (k:Ex→St→Option β):Option β:=(ev T c s).bind fun p=>k p.1 p.2
noncomputable def tY (T:vT) (l:List bL) (s:St) (k:St→Option β):Option β:=(lJ (call T) l s).bind k
noncomputable def aIA (T:vT) (l:List bL) (ps:List (Nat × Nat)) (s:St) (k:St→Option β):Option β:=(gK (call T) l (some ps) s).bind k
def GS (r:FZ) (k:V→List (Nat × Option aL)→Option β):Option β:=match r with
 | some (v,wr)=>k v wr
 | none=>none
def UG (v:V) (x y:Option β):Option β:=match v with
 | .d (.bool b)=>if b = true then x else y
 | _=>none
def aHK (k1:St→Option β) (k:Ex→St→Option β):Ex→St→Option β
 | .normal,s=>k1 s
 | e,s=>k e s
def MF (id:Nat) (k:Ex→St→Option β):Ex→St→Option β
 | .exit id',s=>if id' = id then k .normal s else k (.exit id') s
 | e,s=>k e s
def T5 (m:zR) (k:Ex→St→Option β):Ex→St→Option β
 | .normal,s=>k .normal (m.app s)
 | e,s=>k e s
theorem yI {v v' : V} {x y:Option β} (h:v = v'):UG v x y = UG v' x y:=by rw [h]
theorem Z2 (v:V) (wr:List (Nat × Option aL)) (k:V→List (Nat × Option aL)→Option β):GS (some (v,wr)) k = k v wr:=rfl
theorem VK (b:Bool) (x y:Option β):UG (.d (.bool b)) x y = if b = true then x else y:=rfl
variable {T:vT} {k:Ex→St→Option β}
theorem aE9 (s:St):eG T .skip s k = k .normal s:=by unfold eG; rw [aIa]; rfl
theorem aEA (id:Nat) (s:St):eG T (.exit id) s k = k (.exit id) s:=by unfold eG; rw [aGc]; rfl
theorem aGU (s:St):eG T .ret s k = k .ret s:=by unfold eG; rw [aJB]; rfl
theorem WI (l:List bL) (s:St):eG T (.region l none) s k = tY T l s (k .normal):=by
 unfold eG tY
 rw [OB]
 simp only [gK]
 cases lJ (call T) l s <;> rfl
theorem aC3 (l:List bL) (ps:List (Nat × Nat)) (s:St):eG T (.region l (some ps)) s k = aIA T l ps s (k .normal):=by
 unfold eG aIA
 rw [OB]
 cases gK (call T) l (some ps) s <;> rfl
theorem aFU (a b:aT) (s:St):eG T (.seq a b) s k = eG T a s (aHK (fun s'=>eG T b s' k) k):=by
 unfold eG
 rw [aJb]
 cases ev T a s with
 | none=>rfl
 | some r =>
  obtain ⟨e,s'⟩:=r
  cases e <;> rfl
theorem aDJ (c:dL) (a b:aT) (s:St):eG T (.cond c a b) s k = UG (cV s.get c) (eG T a s k) (eG T b s k):=by
 unfold eG
 rw [aGC]
 generalize cV s.get c = v
 cases v with
 | d x=>cases x with
  | bool b=>cases b <;> rfl
  | _=>rfl
 | _=>rfl
theorem aAS (id:Nat) (a:aT) (s:St):eG T (.block id a) s k = eG T a s (MF id k):=by
 unfold eG
 rw [aFd]
 cases ev T a s with
 | none=>rfl
 | some r =>
  obtain ⟨e,s'⟩:=r
  cases e with
  | normal=>rfl
  | exit i =>
   simp only [Option.bind_some,MF]
   by_cases h:i = id
   ·simp [h]
   ·simp [h]
  | ret=>rfl
theorem aGI (m:zR) (a:aT) (s:St):eG T (.pre m a) s k = eG T a (m.app s) k:=rfl
theorem aE0 (m:zR) (a:aT) (s:St):eG T (.post a m) s k = eG T a s (T5 m k):=by
 unfold eG
 rw [aFY]
 cases ev T a s with
 | none=>rfl
 | some r =>
  obtain ⟨e,s'⟩:=r
  cases e <;> rfl
theorem cG {S X:Type} {step:S→Option (S ⊕ X)} {c:aT} (enc:S→St) (out:X→Ex × St) (hout:∀ x s,out x ≠ (.normal,s))
  (h:∀ s,eG T c (enc s) (fun e s'=>some (e,s')) = eN enc out (step s)) (s:S) :
  eG T (.loop c) (enc s) k = (eZ step s).bind fun x=>k (out x).1 (out x).2:=by
 unfold eG
 rw [aDU enc out hout (fun s=>by
  have:=h s
  unfold eG at this
  rw [← this]
  cases ev T c (enc s) <;> rfl) s]
 cases eZ step s <;> rfl
theorem aIn (ops:List bL) (args:List dL) (dst:Option Nat) (f:Nat) (body:aT) (res:List nF) (id:Nat) (slots:List Nat) (s:St) :
  eG T (.inl ops args dst f body res id slots) s k = tY T ops s fun s1=>(OG args id slots s1).bind fun s2=>eG T body s2 fun ex s3=>match ex with
   | .exit _=>none
   | _=>(pT dst res id slots s3).bind fun s4=>k .normal s4:=by
 unfold eG tY
 rw [aKj]
 cases lJ (call T) ops s with
 | none=>rfl
 | some s1 =>
  simp only [Option.bind_some]
  cases OG args id slots s1 with
  | none=>rfl
  | some s2 =>
   simp only [Option.bind_some]
   cases ev T body s2 with
   | none=>rfl
   | some q =>
    obtain ⟨e,s3⟩:=q
    cases e with
    | normal=>simp only [Option.bind_some]; cases pT dst res id slots s3 <;> rfl
    | exit i=>rfl
    | ret=>simp only [Option.bind_some]; cases pT dst res id slots s3 <;> rfl
theorem aJl (k1:St→Option β) (k:Ex→St→Option β) (s:St):aHK k1 k .normal s = k1 s:=rfl
theorem aKh (k1:St→Option β) (k:Ex→St→Option β) (i:Nat) (s:St):aHK k1 k (.exit i) s = k (.exit i) s:=rfl
theorem aJI (k1:St→Option β) (k:Ex→St→Option β) (s:St):aHK k1 k .ret s = k .ret s:=rfl
theorem aED (id:Nat) (k:Ex→St→Option β) (s:St):MF id k .normal s = k .normal s:=rfl
theorem aET (id:Nat) (k:Ex→St→Option β) (i:Nat) (s:St):MF id k (.exit i) s = if i = id then k .normal s else k (.exit i) s:=rfl
theorem aDq (id:Nat) (k:Ex→St→Option β) (s:St):MF id k .ret s = k .ret s:=rfl
theorem aGM (m:zR) (k:Ex→St→Option β) (s:St):T5 m k .normal s = k .normal (m.app s):=rfl
theorem aHG (m:zR) (k:Ex→St→Option β) (i:Nat) (s:St):T5 m k (.exit i) s = k (.exit i) s:=rfl
theorem aHn (m:zR) (k:Ex→St→Option β) (s:St):T5 m k .ret s = k .ret s:=rfl
theorem aFN (s:St) (k:St→Option β):tY T [] s k = k s:=rfl
theorem O7 (d:Option Nat) (op:jQ) (st:Nat) (l:List bL) (s:St) (k:St→Option β) :
  tY T (⟨d,op,none,st⟩ :: l) s k = GS (eQ (call T) st (cV s.get) s.blk op) fun v wr=>tY T l (s.put d v wr) k:=by
 unfold tY GS
 simp only [lJ,vS,bL.wants]
 cases eQ (call T) st (cV s.get) s.blk op with
 | none=>rfl
 | some r=>rfl
noncomputable def nC (T:vT):List bL→St→List Fp→(St→List Fp→Option β)→Option β
 | [],s,fp,k=>k s fp
 | o :: l,s,fp,k=>match kB (call T) o s with
  | some (s',p)=>nC T l s' (p :: fp) k
  | none=>none
theorem aD1 (l:List bL) (s:St) (fp:List Fp) (k:St→List Fp→Option β):nC T l s fp k = (jO (call T) l s).bind fun r=>k r.1 (r.2.reverse ++ fp):=by
 induction l generalizing s fp with
 | nil=>rfl
 | cons o l ih =>
  simp only [nC,jO]
  cases kB (call T) o s with
  | none=>rfl
  | some q =>
   obtain ⟨s',p⟩:=q
   simp only [ih]
   cases jO (call T) l s' with
   | none=>rfl
   | some r=>obtain ⟨s'',ps⟩:=r; simp
def aGJ (l:List bL) (ps:List (Nat × Nat)) (k:St→Option β) (s:St) (fp:List Fp):Option β:=if GB l fp.reverse ps = true then k s else none
theorem aIL (l:List bL) (ps:List (Nat × Nat)) (s:St) (k:St→Option β):aIA T l ps s k = nC T l s [] (aGJ l ps k):=by
 rw [aD1]
 unfold aIA
 simp only [gK]
 cases jO (call T) l s with
 | none=>rfl
 | some r =>
  obtain ⟨s',fp⟩:=r
  simp only [Option.bind_some,aGJ,List.append_nil,List.reverse_reverse]
  cases h:GB l fp ps <;> simp
theorem LP (d:Option Nat) (op:jQ) (st:Nat) (l:List bL) (s:St) (fp:List Fp) (k:St→List Fp→Option β) :
  nC T (⟨d,op,none,st⟩ :: l) s fp k = GS (eQ (call T) st (cV s.get) s.blk op) fun v wr=>nC T l (s.put d v wr) (uQ ⟨d,op,none,st⟩ s.get s.blk wr :: fp) k:=by
 unfold GS
 simp only [nC,kB,bL.wants]
 cases eQ (call T) st (cV s.get) s.blk op with
 | none=>rfl
 | some r=>rfl
theorem FK (fr:List (Nat × V)) (bl:List (Nat × Option aL)) (t:Nat):St.get ⟨fr,bl⟩ t = lk fr .any t:=rfl
theorem aFc (fr:List (Nat × V)) (bl:List (Nat × Option aL)) (i:Nat):St.blk ⟨fr,bl⟩ i = lk bl none i:=rfl
theorem aLK (live keep:List Nat) (p:Nat × Nat × Nat × Nat) (l:List (Nat × Nat × Nat × Nat)) (c:List (Nat × Nat × Nat × Nat × Nat)) (ft:List Nat) (fc:List (Nat × Nat)) (s:St):zR.app ⟨live,keep,p :: l,c,ft,fc⟩ s = zR.app ⟨live,keep,l,c,ft,fc⟩ (mkT p s):=rfl
end
end Vm
end Go.Proofs.Ytiimibimkpimbaa
set_option linter.unusedVariables false
set_option linter.unusedSimpArgs false
namespace Go.Proofs.Ytiimibimkpimbaa
namespace Vm
open Go.RowKit
def at? {α:Type} (xs:List α) (n:Int):Option α:=if 0 ≤ n then xs[n.toNat]? else none
def cI (n:Int):List D:=[.int .i64 n]
def cB (b:Bool):List D:=[.bool b]
def cS (s:ByteArray):List D:=[.str s]
def cK (k:IntKind) (n:Int):List D:=[.int k n]
def cM {α:Type} (c:α→List D) (xs:List α):List (List D):=xs.map c
def cL {α:Type} (c:α→List D) (xs:List α):List D:=[.sl (cM c xs)]
def C4 {α:Type} (xs:List α) (l h:Int):List α:=(xs.take h.toNat).drop l.toNat
def u5 (n:Nat) (l h:Int):Prop:=0 ≤ l ∧ l ≤ h ∧ h.toNat ≤ n
instance (n:Nat) (l h:Int):Decidable (u5 n l h):=inferInstanceAs (Decidable (_ ∧ _ ∧ _))
section
variable {β:Type} {T:vT} {site:Nat} {ev:dL→V} {bl:Nat→Option aL} (k:V→List (Nat × Option aL)→Option β)
def RJ (size:Nat) (x i:V) (bl:Nat→Option aL):FZ:=match i with
  | .d (.int _ n)=>match x with
   | .own id ver=>match bl id with
    | some (.rows v e sz rows)=>if ver = v ∧ sz = size ∧ 0 ≤ n ∧ n.toNat < rows.length then some (.orow id ver n.toNat 0,[]) else none
    | some (.froz v rows)=>if ver = v ∧ 0 ≤ n then match rows[n.toNat]? with
     | some row=>if row.length = size then some (.d (.ptr row 0),[]) else none
     | none=>none
     else none
    | _=>none
   | .d (.sl rows)=>if 0 ≤ n then match rows[n.toNat]? with
    | some row=>if row.length = size then some (.d (.ptr row 0),[]) else none
    | none=>none
    else none
   | _=>none
  | _=>none
theorem NQ (C:Nat→List D→Option D) (size:Nat) (x i:dL):eQ C site ev bl (.indexAddr size x i) = RJ size (ev x) (ev i) bl:=rfl
theorem aHs {α:Type} (size:Nat) (c:α→List D) (xs:List α) (kd:IntKind) (n:Int) (bl:Nat→Option aL):GS (RJ size (.d (.sl (cM c xs))) (.d (.int kd n)) bl) k = (at? xs n).bind fun x=>if (c x).length = size then k (.d (.ptr (c x) 0)) [] else none:=by
 simp only [RJ,at?,cM]
 by_cases h:0 ≤ n
 ·rw [if_pos h,if_pos h,List.getElem?_map]
  cases xs[n.toNat]? with
  | none=>rfl
  | some x =>
   simp only [Option.map_some,Option.bind_some]
   by_cases h2:(c x).length = size
   ·rw [if_pos h2,if_pos h2]; rfl
   ·rw [if_neg h2,if_neg h2]; rfl
 ·rw [if_neg h,if_neg h]; rfl
def aJk (size id ver:Nat) (n:Int) (b:Option aL):FZ:=match b with
 | some (.rows v e sz rows)=>if ver = v ∧ sz = size ∧ 0 ≤ n ∧ n.toNat < rows.length then some (.orow id ver n.toNat 0,[]) else none
 | some (.froz v rows)=>if ver = v ∧ 0 ≤ n then match rows[n.toNat]? with
  | some row=>if row.length = size then some (.d (.ptr row 0),[]) else none
  | none=>none
  else none
 | _=>none
theorem aA7 (size id ver v e sz:Nat) (n:Int) (rows:List (List D)) (k:V→List (Nat × Option aL)→Option β):GS (aJk size id ver n (some (.rows v e sz rows))) k = if ver = v then (if sz = size then (if 0 ≤ n ∧ n.toNat < rows.length then k (.orow id ver n.toNat 0) [] else none) else none) else none:=by
 simp only [aJk]
 by_cases h1:ver = v
 ·by_cases h2:sz = size
  ·by_cases h3:0 ≤ n ∧ n.toNat < rows.length
   ·rw [if_pos ⟨h1,h2,h3⟩,if_pos h1,if_pos h2,if_pos h3]; rfl
   ·rw [if_neg (fun q=>h3 q.2.2),if_pos h1,if_pos h2,if_neg h3]; rfl
  ·rw [if_neg (fun q=>h2 q.2.1),if_pos h1,if_neg h2]; rfl
 ·rw [if_neg (fun q=>h1 q.1),if_neg h1]; rfl
def UF (size:Nat) (isAgg:Bool) (off:Nat) (row:List D):FZ :=
 if isAgg then (if off + size ≤ row.length then some (.agg (((row.drop off).take size).map .d),[]) else none) else row[off]?.map fun v=>(.d v,[])
def ZO (size:Nat) (isAgg:Bool) (off:Nat) (b:Option aL):FZ:=match b with
 | some (.box cs) =>
  if isAgg then (if off + size ≤ cs.length then some (.agg ((cs.drop off).take size),[]) else none)
  else cs[off]?.map fun v=>(v,[])
 | some (.fbox row)=>UF size isAgg off row
 | _=>none
def aD8 (size:Nat) (isAgg:Bool) (ver i off:Nat) (b:Option aL):FZ:=match b with
 | some (.rows v e sz rows)=>if ver = v then match rows[i]? with
  | some row=>UF size isAgg off row
  | none=>none
  else none
 | _=>none
def GJ (size:Nat) (isAgg:Bool) (x:V) (bl:Nat→Option aL):FZ:=match x with
 | .ptr id off=>ZO size isAgg off (bl id)
 | .d (.ptr row off)=>UF size isAgg off row
 | .orow id ver i off=>aD8 size isAgg ver i off (bl id)
 | _=>none
theorem C5 (C:Nat→List D→Option D) (size:Nat) (isAgg:Bool) (x:dL):eQ C site ev bl (.load size isAgg x) = GJ size isAgg (ev x) bl:=rfl
theorem aAm (size:Nat) (isAgg:Bool) (id off:Nat) (bl:Nat→Option aL):GJ size isAgg (.ptr id off) bl = ZO size isAgg off (bl id):=rfl
theorem aGt (size:Nat) (isAgg:Bool) (id ver i off:Nat) (bl:Nat→Option aL):GJ size isAgg (.orow id ver i off) bl = aD8 size isAgg ver i off (bl id):=rfl
theorem aFX (size off:Nat) (cs:List V):ZO size true off (some (.box cs)) = if off + size ≤ cs.length then some (.agg ((cs.drop off).take size),[]) else none:=rfl
theorem aH9 (size off:Nat) (cs:List V):ZO size false off (some (.box cs)) = cs[off]?.map fun v=>(v,[]):=rfl
def LH (size ver i off id:Nat) (fz:List (Nat × Option aL)) (ds:Option (List D)) (b:Option aL):FZ:=match b with
 | some (.rows w e sz rows)=>if ver = w then match rows[i]?,ds with
  | some row,some ds=>if ds.length = size ∧ off + size ≤ row.length ∧ xA id fz = true then some (.any,(id,some (.rows w e sz (rows.set i (j9 row off ds)))) :: fz) else none
  | _,_=>none
  else none
 | _=>none
def VU (size off id:Nat) (v:V) (b:Option aL):FZ:=match b with
 | some (.box cs)=>if v.cells.length = size ∧ off + size ≤ cs.length ∧ v.known = true then some (.any,[(id,some (.box (j9 cs off v.cells)))]) else none
 | _=>none
def VS (size:Nat) (x v:V) (bl:Nat→Option aL):FZ:=match x with
 | .ptr id off=>VU size off id v (bl id)
 | .orow id ver i off=>LH size ver i off id (sX bl v) (bB (mN bl) v.cells) (bl id)
 | _=>none
theorem aAZ (C:Nat→List D→Option D) (size:Nat) (x v:dL):eQ C site ev bl (.store size x v) = VS size (ev x) (ev v) bl:=rfl
theorem aEn (size id off:Nat) (v:V) (bl:Nat→Option aL):VS size (.ptr id off) v bl = VU size off id v (bl id):=rfl
theorem aEH (size id ver i off:Nat) (v:V) (bl:Nat→Option aL):VS size (.orow id ver i off) v bl = LH size ver i off id (sX bl v) (bB (mN bl) v.cells) (bl id):=rfl
theorem YI (size off id:Nat) (v:V) (cs:List V):VU size off id v (some (.box cs)) = if v.cells.length = size ∧ off + size ≤ cs.length ∧ v.known = true then some (.any,[(id,some (.box (j9 cs off v.cells)))]) else none:=rfl
theorem aB9 (C:Nat→List D→Option D) (size:Nat) (x:dL) (lo hi:Option dL):eQ C site ev bl (.slice size x lo hi) = BX bl size (ev x) (lo.map ev) (hi.map ev):=rfl
def aJa (ver:Nat) (b:Option aL):Option (List (List D)):=match b with
 | some (.rows v _ _ rows)=>if ver = v then some rows else none
 | some (.froz v rows)=>if ver = v then some rows else none
 | _=>none
def HE (v:Option V) (d:Int):Option Int:=match v with
 | none=>some d
 | some (.d (.int _ h))=>some h
 | _=>none
theorem aB8 {α:Type} (size:Nat) (c:α→List D) (xs:List α) (lo hi:Option V) (l h:Int) (hl:HE lo 0 = some l) (hh:HE hi (xs.length:Int) = some h) (hs:sized size (cM c xs) = true) (bl:Nat→Option aL):GS (BX bl size (.d (.sl (cM c xs))) lo hi) k = if u5 xs.length l h then k (.d (.sl (cM c (C4 xs l h)))) [] else none:=by
 have e0:∀ lo' hi',BX bl size (.d (.sl (cM c xs))) lo' hi' = (match HE hi' ((cM c xs).length:Int),HE lo' 0 with
   | some h,some l=>if 0 ≤ l ∧ l ≤ h ∧ h.toNat ≤ (cM c xs).length ∧ sized size (cM c xs) = true then some (.d (.sl (((cM c xs).take h.toNat).drop l.toNat)),[]) else none
   | _,_=>none):=fun lo' hi'=>rfl
 rw [e0,show ((cM c xs).length:Int) = (xs.length:Int) by simp [cM],hl,hh]
 simp only [show (cM c xs).length = xs.length by simp [cM]]
 by_cases q:u5 xs.length l h
 ·rw [if_pos q,if_pos ⟨q.1,q.2.1,q.2.2,hs⟩]
  simp only [Z2,cM,C4,List.map_drop,List.map_take]
 ·rw [if_neg q,if_neg (fun w=>q ⟨w.1,w.2.1,w.2.2.1⟩)]; rfl
end
section
variable {S X:Type} {enc:S→St} {out:X→Ex × St}
theorem aM (c:Prop) [Decidable c] (a b:Option (S ⊕ X)):eN enc out (if c then a else b) = if c then eN enc out a else eN enc out b:=by split <;> rfl
theorem aH {α:Type} (o:Option α) (f:α→Option (S ⊕ X)):eN enc out (o.bind f) = o.bind fun x=>eN enc out (f x):=by cases o <;> rfl
theorem aG:eN enc out none = none:=rfl
theorem aR (s:S):eN enc out (some (.inl s)) = some (.normal,enc s):=rfl
theorem aQ (x:X):eN enc out (some (.inr x)) = some (out x):=rfl
end
theorem qT {α:Type} (size:Nat) (c:α→List D) (hc:∀ x,(c x).length = size) (xs:List α):sized size (cM c xs) = true:=by
 simp [sized,cM,hc]
theorem a8 (xs:List Int):sized 1 (cM cI xs) = true:=qT _ _ (fun x=>by rfl) xs
theorem aX (k:IntKind) (xs:List Int):sized 1 (cM (cK k) xs) = true:=qT _ _ (fun x=>by rfl) xs
theorem aY (xs:List Bool):sized 1 (cM cB xs) = true:=qT _ _ (fun x=>by rfl) xs
theorem aV (xs:List ByteArray):sized 1 (cM cS xs) = true:=qT _ _ (fun x=>by rfl) xs
theorem aU {α:Type} (c:α→List D) (xs:List (List α)):sized 1 (cM (cL c) xs) = true:=qT _ _ (fun x=>by rfl) xs
theorem aK {α:Type} (c:α→List D) (xs:List α):(cM c xs).length = xs.length:=by simp [cM]
theorem aCb {α:Type} (c:α→List D) (xs ys:List α):cM c xs ++ cM c ys = cM c (xs ++ ys):=by simp [cM]
theorem aJq {α:Type} (c:α→List D) (xs:List α) (i:Nat) (x:α):cM c (xs.set i x) = (cM c xs).set i (c x):=by simp [cM,List.map_set]
theorem P3 {α:Type} (c:α→List D) (n:Nat) (x:α):cM c (List.replicate n x) = List.replicate n (c x):=by simp [cM]
theorem aW {α γ:Type} (c:Prop) [Decidable c] (a b:Option α) (f:α→Option γ):(if c then a else b).bind f = if c then a.bind f else b.bind f:=by split <;> rfl
theorem bH {α γ:Type} (c:Prop) [Decidable c] (a b:Option α) (f:α→γ):(if c then a else b).map f = if c then a.map f else b.map f:=by split <;> rfl
theorem bind_map {α γ δ:Type} (o:Option α) (f:α→Option γ) (g:γ→δ):(o.bind f).map g = o.bind fun x=>(f x).map g:=by cases o <;> rfl
theorem aO {α γ:Type} (f:α→Option γ):(none:Option α).bind f = none:=rfl
theorem aP {α γ δ ε:Type} (f:α→Option δ) (g:γ→Option δ) (x:α ⊕ γ) (h:δ→Option ε):(Sum.elim f g x).bind h = Sum.elim (fun y=>(f y).bind h) (fun y=>(g y).bind h) x:=by cases x <;> rfl
theorem aZ {α γ δ ε:Type} (f:α→Option δ) (g:γ→Option δ) (x:α ⊕ γ) (h:δ→ε):(Sum.elim f g x).map h = Sum.elim (fun y=>(f y).map h) (fun y=>(g y).map h) x:=by cases x <;> rfl
def gIf {α:Type} (b:Bool) (x y:α):α:=if b = true then x else y
theorem bO {α:Type} (b:Bool) (x y:α):gIf b x y = if b = true then x else y:=rfl
theorem aI {S X α γ:Type} {enc:S→St} {out:X→Ex × St} (f:α→Option (S ⊕ X)) (g:γ→Option (S ⊕ X)) (x:α ⊕ γ):eN enc out (Sum.elim f g x) = Sum.elim (fun y=>eN enc out (f y)) (fun y=>eN enc out (g y)) x:=by cases x <;> rfl
def aMi (sf:gH):Ex→St→Option D
 | .normal,s=>DT sf s
 | .ret,s=>DT sf s
 | .exit _,_=>none
theorem UH {T:vT} {f:Nat} {sf:gH} (hf:T f = some (.code sf)) (ds:List D) (hl:ds.length = sf.np) (hlt:iO 0 ds = none):Vm.call T f ds = eG T sf.body ⟨oI 0 ds,[]⟩ (aMi sf):=by
 rw [aHI hf ds hl hlt]
 unfold eG
 cases Vm.ev T sf.body ⟨oI 0 ds,[]⟩ with
 | none=>rfl
 | some q =>
  obtain ⟨e,s⟩:=q
  cases e <;> rfl
theorem bJ {α β:Type} (o:Option α) {f g:α→Option β} (h:∀ x,f x = g x):o.bind f = o.bind g:=by rw [funext h]
end Vm
end Go.Proofs.Ytiimibimkpimbaa
set_option linter.unusedVariables false
set_option linter.unusedSimpArgs false
namespace Go.Proofs.Ytiimibimkpimbaa
namespace Vm
open Go.RowKit
section
variable {β:Type}
def qN (fr:List (Nat × V)) (t:Nat) (k:V→Option β):Option β:=k (lk fr .any t)
def dK (bl:List (Nat × Option aL)) (i:Nat) (k:Option aL→Option β):Option β:=k (lk bl none i)
def d9 (fr:List (Nat × V)) (o:dL) (k:V→Option β):Option β:=k (cV (lk fr .any) o)
theorem aC9 (t:Nat) (v:V) (fr:List (Nat × V)) (k:V→Option β):qN ((t,v) :: fr) t k = k v:=by simp [qN,lk]
theorem aBO (a t:Nat) (v:V) (fr:List (Nat × V)) (k:V→Option β) (h:(t == a) = false):qN ((a,v) :: fr) t k = qN fr t k:=by
 have:¬ t = a:=by simpa using h
 simp [qN,lk,this]
theorem aDr (t:Nat) (v:Option aL) (fr:List (Nat × Option aL)) (k:Option aL→Option β):dK ((t,v) :: fr) t k = k v:=by simp [dK,lk]
theorem aAx (a t:Nat) (v:Option aL) (fr:List (Nat × Option aL)) (k:Option aL→Option β) (h:(t == a) = false):dK ((a,v) :: fr) t k = dK fr t k:=by
 have:¬ t = a:=by simpa using h
 simp [dK,lk,this]
theorem aFz (t:Nat) (k:Option aL→Option β):dK [] t k = k none:=rfl
theorem aGk (bl:List (Nat × Option aL)) (t:Nat) (k:Option aL→Option β):dK ([] ++ bl) t k = dK bl t k:=rfl
theorem aG9 (p:Nat × Option aL) (w bl:List (Nat × Option aL)) (t:Nat) (k:Option aL→Option β):dK ((p :: w) ++ bl) t k = dK (p :: (w ++ bl)) t k:=rfl
theorem aJU (fr:List (Nat × V)) (t:Nat) (k:V→Option β):d9 fr (.t t) k = qN fr t k:=rfl
theorem aKc (fr:List (Nat × V)) (v:V) (k:V→Option β):d9 fr (.c v) k = k v:=rfl
def bM (ds:List D):List V:=ds.map .d
def oJ (ds:List D):V:=.agg (bM ds)
noncomputable def uH (T:vT) (d:Nat) (op:jQ) (fr:List (Nat × V)) (bl:List (Nat × Option aL)) (k:V→Option β) (kw:V→List (Nat × Option aL)→Option β):Option β :=
 match eQ (call T) d (cV (lk fr .any)) (lk bl none) op with
 | none=>none
 | some (v,[])=>k v
 | some (v,p :: wr)=>kw v (p :: wr)
theorem aBR {T:vT} (d st:Nat) (op:jQ) (l:List bL) (fr:List (Nat × V)) (bl:List (Nat × Option aL)) (k:St→Option β) :
  tY T (⟨some d,op,none,st⟩ :: l) ⟨fr,bl⟩ k = uH T st op fr bl (fun v=>tY T l ⟨(d,v) :: fr,bl⟩ k) (fun v wr=>tY T l ⟨(d,v) :: fr,wr ++ bl⟩ k):=by
 rw [O7]
 unfold uH GS
 show (match eQ (call T) st (cV (lk fr .any)) (lk bl none) op with | some (v,wr)=>_ | none=>none) = _
 cases eQ (call T) st (cV (lk fr .any)) (lk bl none) op with
 | none=>rfl
 | some r=>obtain ⟨v,wr⟩:=r; cases wr <;> rfl
theorem W4 {T:vT} (st:Nat) (op:jQ) (l:List bL) (fr:List (Nat × V)) (bl:List (Nat × Option aL)) (k:St→Option β) :
  tY T (⟨none,op,none,st⟩ :: l) ⟨fr,bl⟩ k = uH T st op fr bl (fun _=>tY T l ⟨fr,bl⟩ k) (fun _ wr=>tY T l ⟨fr,wr ++ bl⟩ k):=by
 rw [O7]
 unfold uH GS
 show (match eQ (call T) st (cV (lk fr .any)) (lk bl none) op with | some (v,wr)=>_ | none=>none) = _
 cases eQ (call T) st (cV (lk fr .any)) (lk bl none) op with
 | none=>rfl
 | some r=>obtain ⟨v,wr⟩:=r; cases wr <;> rfl
def bZ (t:Nat) (b:Bool) (op:jQ):jQ:=match op with
 | .pick (.t t') x y=>if t' = t then .move (if b then x else y) else op
 | op=>op
def b7 (t:Nat) (b:Bool) (o:bL):bL:=match o.guard with
 | some (t',w)=>if t' = t then (if w = b then ⟨o.dst,bZ t b o.op,none,o.site⟩ else ⟨o.dst,.move (.c (.tup [])),none,o.site⟩) else ⟨o.dst,bZ t b o.op,some (t',w),o.site⟩
 | none=>⟨o.dst,bZ t b o.op,none,o.site⟩
def bW (t:Nat) (b:Bool):List bL→List bL
 | []=>[]
 | o :: l=>b7 t b o :: (if o.dst = some t then l else bW t b l)
theorem w6 {C:Nat→List D→Option D} {site:Nat} {fr:Nat→V} {bl:Nat→Option aL} {t:Nat} {b:Bool} (h:fr t = .d (.bool b)) (op:jQ):eQ C site (cV fr) bl (bZ t b op) = eQ C site (cV fr) bl op:=by
 cases op with
 | pick c x y =>
  cases c with
  | t t' =>
   simp only [bZ]
   split
   ·rename_i e
    subst e
    simp only [eQ,cV,h]
    cases b <;> rfl
   ·rfl
  | c v=>rfl
 | _=>rfl
theorem aAF {C:Nat→List D→Option D} {s:St} {t:Nat} {b:Bool} (h:s.get t = .d (.bool b)) (o:bL):vS C (b7 t b o) s = vS C o s:=by
 obtain ⟨d,op,g,st⟩:=o
 cases g with
 | some g =>
  obtain ⟨t',w⟩:=g
  simp only [b7]
  split
  ·rename_i e
   subst e
   split
   ·rename_i e
    subst e
    simp only [vS,bL.wants,h,w6 h]
    cases w <;> rfl
   ·rename_i e
    simp only [vS,bL.wants,h,eQ,cV]
    cases w <;> cases b <;> simp_all [vJ]
  ·simp only [vS,bL.wants,w6 h]
 | none=>simp only [b7,vS,bL.wants,w6 h]
theorem BG {s:St} {d:Option Nat} {v:V} {wr:List (Nat × Option aL)} {t:Nat} (h:¬ d = some t):(s.put d v wr).get t = s.get t:=by
 cases d with
 | none=>rfl
 | some a =>
  show lk ((a,v) :: s.fr) .any t = lk s.fr .any t
  have:¬ t = a:=fun e=>h (by rw [e])
  simp [lk,this]
theorem aBK {C:Nat→List D→Option D} {o:bL} {s s' : St} {t:Nat} (h:¬ o.dst = some t) (e:vS C o s = some s'):s'.get t = s.get t:=by
 unfold vS at e
 split at e
 ·split at e
  ·cases e; exact BG h
  ·cases e
 ·cases e; exact BG h
 ·cases e
theorem H0 {C:Nat→List D→Option D} {t:Nat} {b:Bool}:∀ (l:List bL) {s:St} (h:s.get t = .d (.bool b)),lJ C (bW t b l) s = lJ C l s
 | [],s,h=>rfl
 | o :: l,s,h=>by
  simp only [bW,lJ,aAF h]
  cases e:vS C o s with
  | none=>rfl
  | some s' =>
   simp only
   split
   ·rfl
   ·rename_i hd
    exact H0 l (by rw [aBK hd e]; exact h)
noncomputable def HZ (T:vT) (v:V) (t:Nat) (l:List bL) (s:St) (k:St→Option β):Option β:=match v with
 | .d (.bool b)=>if b = true then tY T (bW t true l) s k else tY T (bW t false l) s k
 | .tup []=>match l with
  | o :: r=>tY T r (s.put o.dst (.tup []) []) k
  | []=>none
 | _=>none
theorem WP {T:vT} (d:Option Nat) (op:jQ) (t:Nat) (w:Bool) (st:Nat) (l:List bL) (fr:List (Nat × V)) (bl:List (Nat × Option aL)) (k:St→Option β) :
  tY T (⟨d,op,some (t,w),st⟩ :: l) ⟨fr,bl⟩ k = qN fr t fun v=>HZ T v t (⟨d,op,some (t,w),st⟩ :: l) ⟨fr,bl⟩ k:=by
 show _ = HZ T (lk fr .any t) t _ _ k
 generalize hv:lk fr .any t = v
 have bad:∀ (q:vJ v w = .bad),tY T (⟨d,op,some (t,w),st⟩ :: l) ⟨fr,bl⟩ k = none:=by
  intro q
  unfold tY
  simp only [lJ,vS,bL.wants]
  rw [show (St.get ⟨fr,bl⟩ t) = v from hv,q]; rfl
 cases v with
 | d x =>
  cases x with
  | bool b =>
   simp only [HZ]
   cases b with
   | true=>rw [if_pos rfl]; unfold tY; rw [H0 (t:=t) (b:=true) (s:=⟨fr,bl⟩) _ hv]
   | false=>rw [if_neg (by decide)]; unfold tY; rw [H0 (t:=t) (b:=false) (s:=⟨fr,bl⟩) _ hv]
  | _=>exact bad rfl
 | tup vs =>
  cases vs with
  | nil =>
   simp only [HZ]
   unfold tY
   simp only [lJ,vS,bL.wants]
   rw [show (St.get ⟨fr,bl⟩ t) = _ from hv]
   rfl
  | cons x l=>exact bad rfl
 | _=>exact bad rfl
theorem aFG {T:vT} (b:Bool) (t:Nat) (l:List bL) (s:St) (k:St→Option β):HZ T (.d (.bool b)) t l s k = if b = true then tY T (bW t true l) s k else tY T (bW t false l) s k:=rfl
theorem aC7 {T:vT} (t d st:Nat) (op:jQ) (g:Option (Nat × Bool)) (l:List bL) (fr:List (Nat × V)) (bl:List (Nat × Option aL)) (k:St→Option β):HZ T (.tup []) t (⟨some d,op,g,st⟩ :: l) ⟨fr,bl⟩ k = tY T l ⟨(d,.tup []) :: fr,bl⟩ k:=rfl
theorem BN {T:vT} {l l' : List bL} {s:St} {k:St→Option β} (h:l = l'):tY T l s k = tY T l' s k:=by rw [h]
section
variable {T:vT} {d:Nat} {fr:List (Nat × V)} {bl:List (Nat × Option aL)} {k:V→Option β} {kw:V→List (Nat × Option aL)→Option β}
def AS (r:FZ) (k:V→Option β) (kw:V→List (Nat × Option aL)→Option β):Option β:=match r with
 | none=>none
 | some (v,[])=>k v
 | some (v,p :: wr)=>kw v (p :: wr)
theorem RK (o:Option D):AS (FZ.v o) k kw = o.bind fun x=>k (.d x):=by cases o <;> rfl
theorem aFi (x:dL):uH T d (.move x) fr bl k kw = d9 fr x k:=rfl
def jR (b:Option aL) (x:Option β):Option β:=match b with
 | none=>x
 | some _=>none
theorem aHr (x:Option β):jR none x = x:=rfl
theorem aAW (z:List V):uH T d (.alloc z) fr bl k kw = dK bl d fun b=>jR b (kw (.ptr d 0) [(d,some (.box z))]):=by
 unfold uH dK jR
 simp only [eQ]
 cases lk bl none d <;> rfl
def B0 (v:V) (k:List V→Option β):Option β:=if v.known = true then k v.cells else none
theorem aFF (x:D) (k:List V→Option β):B0 (.d x) k = k [.d x]:=rfl
theorem V0 (cs:List V) (k:List V→Option β):B0 (.agg cs) k = k cs:=rfl
theorem SJ (ds:List D) (k:List V→Option β):B0 (oJ ds) k = k (bM ds):=rfl
theorem W7 (i o:Nat) (k:List V→Option β):B0 (.own i o) k = k [.own i o]:=rfl
theorem aG3 (x:dL):uH T d (.box x) fr bl k kw = dK bl d fun b=>jR b (d9 fr x fun v=>B0 v fun cs=>kw (.ptr d 0) [(d,some (.box cs))]):=by
 unfold uH dK jR d9 B0
 simp only [eQ]
 cases lk bl none d with
 | none =>
  simp only
  by_cases h:(cV (lk fr .any) x).known = true
  ·rw [if_pos h,if_pos h]
  ·rw [if_neg h,if_neg h]
 | some b=>rfl
def GI (fr:List (Nat × V)):List dL→(List V→Option β)→Option β
 | [],k=>k []
 | x :: l,k=>d9 fr x fun v=>GI fr l fun vs=>k (v :: vs)
theorem SD (l:List dL) (k:List V→Option β):GI fr l k = k (l.map (cV (lk fr .any))):=by
 induction l generalizing k with
 | nil=>rfl
 | cons x l ih=>simp only [GI,d9,ih,List.map_cons]
theorem aAX (k:List V→Option β):GI fr [] k = k []:=rfl
theorem XH (x:dL) (l:List dL) (k:List V→Option β):GI fr (x :: l) k = d9 fr x fun v=>GI fr l fun vs=>k (v :: vs):=rfl
def FI (fr:List (Nat × V)):List (Nat × Nat × dL)→(List (Nat × Nat × V)→Option β)→Option β
 | [],k=>k []
 | (o,s,x) :: l,k=>d9 fr x fun v=>FI fr l fun vs=>k ((o,s,v) :: vs)
theorem lF (op:jQ):uH T d op fr bl k kw = AS (eQ (call T) d (cV (lk fr .any)) (lk bl none) op) k kw:=by
 unfold uH AS
 cases eQ (call T) d (cV (lk fr .any)) (lk bl none) op with
 | none=>rfl
 | some r=>obtain ⟨v,wr⟩:=r; cases wr <;> rfl
theorem ER (r:FZ):AS r k kw = GS r fun v wr=>match wr with | []=>k v | p :: w=>kw v (p :: w):=by
 cases r with
 | none=>rfl
 | some r=>obtain ⟨v,wr⟩:=r; cases wr <;> rfl
def DJ:List V→Nat→(V→Option β)→Option β
 | [],_,_=>none
 | c :: _,0,k=>k c
 | _ :: cs,n + 1,k=>DJ cs n k
theorem MP (cs:List V) (n:Nat) (k:V→Option β):DJ cs n k = cs[n]?.bind k:=by
 induction cs generalizing n with
 | nil=>rfl
 | cons c cs ih=>cases n with
  | zero=>rfl
  | succ n=>simp only [DJ,ih,List.getElem?_cons_succ]
theorem aGO (c:V) (cs:List V) (k:V→Option β):DJ (c :: cs) 0 k = k c:=rfl
theorem aGy (c:V) (cs:List V) (n:Nat) (k:V→Option β):DJ (c :: cs) (n + 1) k = DJ cs n k:=rfl
def iI (ds:List D) (n:Nat) (k:D→Option β):Option β:=ds[n]?.bind k
def wB (ds:List D) (off size:Nat) (k:List D→Option β):Option β:=if off + size ≤ ds.length then k ((ds.drop off).take size) else none
def JR (cs:List V) (off size:Nat) (k:List V→Option β):Option β:=if off + size ≤ cs.length then k ((cs.drop off).take size) else none
theorem aIg (ds:List D) (n:Nat) (k:V→Option β):DJ (bM ds) n k = iI ds n fun x=>k (.d x):=by
 rw [MP]
 unfold bM iI
 rw [List.getElem?_map]
 cases ds[n]? <;> rfl
theorem aBc (cs:List V) (n:Nat) (k:List V→Option β) (h:cs.length = n):JR cs 0 n k = k cs:=by
 subst h
 simp [JR]
theorem aGm (ds:List D) (off n:Nat) (k:List V→Option β):JR (bM ds) off n k = wB ds off n fun l=>k (bM l):=by
 unfold JR wB bM
 simp only [List.length_map,List.map_take,List.map_drop]
def BL (size:Nat) (isAgg:Bool) (off:Nat) (b:Option aL) (k:V→Option β):Option β:=match b with
 | some (.box cs)=>if isAgg = true then JR cs off size fun l=>k (.agg l) else DJ cs off k
 | some (.fbox row)=>if isAgg = true then wB row off size fun l=>k (oJ l) else iI row off fun x=>k (.d x)
 | _=>none
def LW (size:Nat) (isAgg:Bool) (ver i off:Nat) (b:Option aL) (k:V→Option β):Option β:=match b with
 | some (.rows v e sz rows)=>if ver = v then rows[i]?.bind fun row=>(if isAgg = true then wB row off size fun l=>k (oJ l) else iI row off fun x=>k (.d x)) else none
 | _=>none
def xP (size:Nat) (isAgg:Bool) (x:V) (bl:List (Nat × Option aL)) (k:V→Option β):Option β:=match x with
 | .ptr id off=>dK bl id fun b=>BL size isAgg off b k
 | .d (.ptr row off)=>if isAgg = true then wB row off size fun l=>k (oJ l) else iI row off fun x=>k (.d x)
 | .orow id ver i off=>dK bl id fun b=>LW size isAgg ver i off b k
 | _=>none
theorem UB (size:Nat) (isAgg:Bool) (x:dL):uH T d (.load size isAgg x) fr bl k kw = d9 fr x fun v=>xP size isAgg v bl k:=by
 rw [lF,C5]
 unfold d9
 generalize cV (lk fr .any) x = v
 have hD:∀ row off,AS (UF size isAgg off row) k kw = if isAgg = true then wB row off size fun l=>k (oJ l) else iI row off fun x=>k (.d x):=by
  intro row off
  unfold UF
  cases isAgg with
  | true=>simp only [if_true,wB]; split <;> rfl
  | false=>simp only [Bool.false_eq_true,if_false,iI]; cases row[off]? <;> rfl
 cases v with
 | ptr id off =>
  rw [aAm]
  simp only [xP,dK]
  generalize lk bl none id = b
  cases b with
  | none=>rfl
  | some b=>cases b with
   | box cs =>
    cases isAgg with
    | true=>simp only [aFX,BL,if_true,JR]; split <;> rfl
    | false=>simp only [aH9,BL,Bool.false_eq_true,if_false,MP]; cases cs[off]? <;> rfl
   | fbox row=>exact hD row off
   | _=>rfl
 | d x=>cases x with
  | ptr row off=>exact hD row off
  | _=>rfl
 | orow id ver i off =>
  rw [aGt]
  simp only [xP,dK]
  generalize lk bl none id = b
  cases b with
  | none=>rfl
  | some b=>cases b with
   | rows v e sz rows =>
    simp only [aD8,LW]
    split
    ·cases rows[i]? with
     | none=>rfl
     | some row=>exact hD row off
    ·rfl
   | _=>rfl
 | _=>rfl
theorem aAr (size:Nat) (isAgg:Bool) (id off:Nat):xP size isAgg (.ptr id off) bl k = dK bl id fun b=>BL size isAgg off b k:=rfl
theorem aDA (size:Nat) (row:List D) (off:Nat):xP size true (.d (.ptr row off)) bl k = wB row off size fun l=>k (oJ l):=rfl
theorem aEt (size:Nat) (row:List D) (off:Nat):xP size false (.d (.ptr row off)) bl k = iI row off fun x=>k (.d x):=rfl
theorem aF2 (size:Nat) (isAgg:Bool) (id ver i off:Nat):xP size isAgg (.orow id ver i off) bl k = dK bl id fun b=>LW size isAgg ver i off b k:=rfl
theorem aAV (size off:Nat) (row:List D):BL size true off (some (.fbox row)) k = wB row off size fun l=>k (oJ l):=rfl
theorem aAc (size off:Nat) (row:List D):BL size false off (some (.fbox row)) k = iI row off fun x=>k (.d x):=rfl
theorem aDa (size off:Nat) (cs:List V):BL size false off (some (.box cs)) k = DJ cs off k:=rfl
theorem aCF (size off:Nat) (c:V) (cs:List V):BL size true off (some (.box (c :: cs))) k = JR (c :: cs) off size fun l=>k (.agg l):=rfl
theorem aFb (size off:Nat) (ds:List D):BL size true off (some (.box (bM ds))) k = wB ds off size fun l=>k (oJ l):=by
 show JR (bM ds) off size (fun l=>k (.agg l)) = _
 rw [aGm]; rfl
theorem R6 {α:Type} (size:Nat) (isAgg:Bool) (v i off e sz:Nat) (c:α→List D) (xs:List α):LW size isAgg v i off (some (.rows v e sz (cM c xs))) k = xs[i]?.bind fun x=>xP size isAgg (.d (.ptr (c x) off)) [] k:=by
 simp only [LW,if_true,cM,List.getElem?_map]
 cases xs[i]? <;> rfl
def E6:List V→Nat→V→(List V→Option β)→Option β
 | [],_,_,_=>none
 | _ :: cs,0,v,k=>k (v :: cs)
 | c :: cs,n + 1,v,k=>E6 cs n v fun l=>k (c :: l)
theorem aC6 (cs:List V) (n:Nat) (v:V) (k:List V→Option β):E6 cs n v k = if n + 1 ≤ cs.length then k (j9 cs n [v]) else none:=by
 induction cs generalizing n k with
 | nil=>rfl
 | cons c cs ih=>cases n with
  | zero=>rw [if_pos (by simp)]; cases cs <;> rfl
  | succ n =>
   simp only [E6,ih,j9,List.length_cons]
   by_cases h:n + 1 ≤ cs.length
   ·rw [if_pos h,if_pos (by omega)]
   ·rw [if_neg h,if_neg (by omega)]
theorem aGY (c:V) (cs:List V) (v:V) (k:List V→Option β):E6 (c :: cs) 0 v k = k (v :: cs):=rfl
theorem aHh (c:V) (cs:List V) (n:Nat) (v:V) (k:List V→Option β):E6 (c :: cs) (n + 1) v k = E6 cs n v fun l=>k (c :: l):=rfl
def uU (cs:List V) (off:Nat) (ws:List V) (k:List V→Option β):Option β:=if off + ws.length ≤ cs.length then k (j9 cs off ws) else none
theorem OX {α:Type} (l:List α) (n:Nat):j9 l n [] = l:=by cases l <;> rfl
theorem RP (c:V) (cs:List V) (off:Nat) (ws:List V) (k:List V→Option β) (hw:ws ≠ []):uU (c :: cs) (off + 1) ws k = uU cs off ws fun l=>k (c :: l):=by
 unfold uU
 cases ws with
 | nil=>exact absurd rfl hw
 | cons w ws =>
  simp only [List.length_cons,j9]
  by_cases h:off + (ws.length + 1) ≤ cs.length
  ·rw [if_pos h,if_pos (by omega)]
  ·rw [if_neg h,if_neg (by omega)]
theorem XM (c:V) (cs:List V) (w:V) (ws:List V) (k:List V→Option β):uU (c :: cs) 0 (w :: ws) k = uU cs 0 ws fun l=>k (w :: l):=by
 unfold uU
 simp only [List.length_cons,j9]
 by_cases h:0 + ws.length ≤ cs.length
 ·rw [if_pos h,if_pos (by omega)]
 ·rw [if_neg h,if_neg (by omega)]
theorem YB (cs:List V) (k:List V→Option β):uU cs 0 [] k = k cs:=by simp [uU,OX]
def oQ (size off id:Nat) (v:V) (b:Option aL) (kw:V→List (Nat × Option aL)→Option β):Option β:=match b with
 | some (.box cs)=>if v.cells.length = size ∧ off + size ≤ cs.length ∧ v.known = true then kw .any [(id,some (.box (j9 cs off v.cells)))] else none
 | _=>none
def GP (size ver i off id:Nat) (v:V) (bl:List (Nat × Option aL)) (b:Option aL) (kw:V→List (Nat × Option aL)→Option β):Option β:=GS (LH size ver i off id (sX (lk bl none) v) (bB (mN (lk bl none)) v.cells) b) kw
def L0 (size:Nat) (p v:V) (bl:List (Nat × Option aL)) (kw:V→List (Nat × Option aL)→Option β):Option β:=match p with
 | .ptr id off=>dK bl id fun b=>oQ size off id v b kw
 | .orow id ver i off=>dK bl id fun b=>GP size ver i off id v bl b kw
 | _=>none
theorem aBd (size:Nat) (x v:dL):uH T d (.store size x v) fr bl k kw = d9 fr x fun p=>d9 fr v fun w=>L0 size p w bl kw:=by
 rw [lF,aAZ]
 unfold d9
 generalize cV (lk fr .any) x = p
 generalize cV (lk fr .any) v = w
 cases p with
 | ptr id off =>
  rw [aEn]
  simp only [L0,dK]
  generalize lk bl none id = b
  cases b with
  | none=>rfl
  | some b=>cases b with
   | box cs =>
    simp only [YI,oQ]
    by_cases h:w.cells.length = size ∧ off + size ≤ cs.length ∧ w.known = true
    ·rw [if_pos h,if_pos h]; rfl
    ·rw [if_neg h,if_neg h]; rfl
   | _=>rfl
 | orow id ver i off =>
  rw [aEH]
  simp only [L0,dK,GP]
  rw [ER]
  generalize lk bl none id = b
  cases b with
  | none=>rfl
  | some b=>cases b with
   | rows v e sz rows =>
    simp only [LH]
    by_cases h:ver = v
    ·rw [if_pos h]
     cases rows[i]? with
     | none=>rfl
     | some row =>
      cases bB (mN (lk bl none)) w.cells with
      | none=>rfl
      | some ds =>
       simp only
       split <;> rfl
    ·rw [if_neg h]; rfl
   | _=>rfl
 | _=>rfl
theorem aEw (size id off:Nat) (v:V):L0 size (.ptr id off) v bl kw = dK bl id fun b=>oQ size off id v b kw:=rfl
theorem aE4 (size id ver i off:Nat) (v:V):L0 size (.orow id ver i off) v bl kw = dK bl id fun b=>GP size ver i off id v bl b kw:=rfl
theorem HL (off id:Nat) (w c:V) (cs:List V) (hw:w.one = true) (hk:w.known = true):oQ 1 off id w (some (.box (c :: cs))) kw = E6 (c :: cs) off w fun l=>kw .any [(id,some (.box l))]:=by
 have hc:w.cells = [w]:=by cases w <;> first | rfl | cases hw
 rw [aC6]
 simp only [oQ,hc,hk]
 by_cases h:off + 1 ≤ (c :: cs).length
 ·rw [if_pos h,if_pos ⟨rfl,h,trivial⟩]
 ·rw [if_neg h,if_neg (fun q=>h q.2.1)]
theorem aCe (off id:Nat) (x:D) (c:V) (cs:List V):oQ 1 off id (.d x) (some (.box (c :: cs))) kw = E6 (c :: cs) off (.d x) fun l=>kw .any [(id,some (.box l))]:=HL off id _ c cs rfl rfl
theorem UE (off id i v:Nat) (c:V) (cs:List V):oQ 1 off id (.own i v) (some (.box (c :: cs))) kw = E6 (c :: cs) off (.own i v) fun l=>kw .any [(id,some (.box l))]:=HL off id _ c cs rfl rfl
def G2 (cs:List V) (n:Nat) (x:Option β):Option β:=if cs.length = n then x else none
theorem aFT (x:Option β):G2 [] 0 x = x:=rfl
theorem aIs (c:V) (cs:List V) (n:Nat) (x:Option β):G2 (c :: cs) (n + 1) x = G2 cs n x:=by
 unfold G2
 simp only [List.length_cons]
 by_cases h:cs.length = n
 ·rw [if_pos h,if_pos (by omega)]
 ·rw [if_neg h,if_neg (by omega)]
theorem SU (size off id:Nat) (ws:List V) (c:V) (cs:List V):oQ size off id (.agg ws) (some (.box (c :: cs))) kw = G2 ws size (uU (c :: cs) off ws fun l=>kw .any [(id,some (.box l))]):=by
 unfold G2 uU
 show (if ws.length = size ∧ off + size ≤ (c :: cs).length ∧ V.known (.agg ws) = true then kw .any [(id,some (.box (j9 (c :: cs) off ws)))] else none) = _
 by_cases h:ws.length = size
 ·subst h
  rw [if_pos rfl]
  by_cases h:off + ws.length ≤ (c :: cs).length
  ·rw [if_pos h,if_pos ⟨rfl,h,rfl⟩]
  ·rw [if_neg h,if_neg (fun q=>h q.2.1)]
 ·rw [if_neg h,if_neg (fun q=>h q.1)]
theorem PT {α:Type}:∀ (l m:List α),l.length = m.length→j9 l 0 m = m
 | [],[],_=>rfl
 | _ :: l,x :: m,h=>by
  simp only [j9]
  rw [PT l m (by simpa using h)]
 | [],_ :: _,h=>by simp at h
 | _ :: _,[],h=>by simp at h
theorem pC (n id:Nat) (ds:List D) (hd:ds.length = n) (cs:List V) (hc:cs.length = n):oQ n 0 id (oJ ds) (some (.box cs)) kw = kw .any [(id,some (.box (bM ds)))]:=by
 have e:(bM ds).length = n:=by rw [← hd]; simp [bM]
 show (if (bM ds).length = n ∧ 0 + n ≤ cs.length ∧ V.known (oJ ds) = true then kw .any [(id,some (.box (j9 cs 0 (bM ds))))] else none) = _
 rw [if_pos ⟨e,by omega,rfl⟩,PT _ _ (by rw [hc,e])]
def aJ0 (v:V) (bl:List (Nat × Option aL)) (k:V→Option β):Option β:=match v with
 | .ptr id off=>k (.ptr id off)
 | .d (.ptr row off)=>k (.d (.ptr row off))
 | .orow id ver i off=>dK bl id fun b=>match b with
  | some (.rows v _ _ _)=>if ver = v then k (.orow id ver i off) else none
  | _=>none
 | _=>none
theorem PZ (x:dL):uH T d (.nilCheck x) fr bl k kw = d9 fr x fun v=>aJ0 v bl k:=by
 unfold uH d9
 simp only [eQ]
 generalize cV (lk fr .any) x = v
 cases v with
 | d x=>cases x <;> rfl
 | orow id ver i off =>
  simp only [aJ0,dK]
  generalize lk bl none id = b
  cases b with
  | none=>rfl
  | some b=>cases b with
   | rows v e s rows=>simp only; by_cases h:ver = v <;> simp [h]
   | _=>rfl
 | _=>rfl
theorem aJM (id off:Nat):aJ0 (.ptr id off) bl k = k (.ptr id off):=rfl
def ZA (id ver i off:Nat) (b:Option aL) (k:V→Option β):Option β:=match b with
 | some (.rows v _ _ _)=>if ver = v then k (.orow id ver i off) else none
 | _=>none
theorem aGA (id ver i off e s:Nat) (rows:List (List D)):ZA id ver i off (some (.rows ver e s rows)) k = k (.orow id ver i off):=if_pos rfl
def faK (off:Nat) (v:V) (bl:List (Nat × Option aL)) (k:V→Option β):Option β:=match v with
 | .ptr id o=>k (.ptr id (o + off))
 | .d (.ptr row o)=>k (.d (.ptr row (o + off)))
 | .orow id ver i o=>dK bl id fun b=>ZA id ver i (o + off) b k
 | _=>none
theorem NZ (off:Nat) (x:dL):uH T d (.fieldAddr off x) fr bl k kw = d9 fr x fun v=>faK off v bl k:=by
 unfold uH d9
 simp only [eQ]
 generalize cV (lk fr .any) x = v
 cases v with
 | d x=>cases x <;> rfl
 | orow id ver i o =>
  simp only [faK,dK]
  generalize lk bl none id = b
  cases b with
  | none=>rfl
  | some b=>cases b with
   | rows v e s rows=>simp only [ZA]; by_cases h:ver = v <;> simp [h]
   | _=>rfl
 | _=>rfl
theorem aLO (off id o:Nat):faK off (.ptr id o) bl k = k (.ptr id (o + off)):=rfl
theorem aKY (off:Nat) (row:List D) (o:Nat):faK off (.d (.ptr row o)) bl k = k (.d (.ptr row (o + off))):=rfl
theorem aK9 (off id ver i o:Nat):faK off (.orow id ver i o) bl k = dK bl id fun b=>ZA id ver i (o + off) b k:=rfl
def BM (c:Nat) (op:BinOp) (a b:V) (k:V→Option β):Option β:=(CK c op a b).bind fun x=>k (.d x)
theorem aHx (c:Nat) (op:BinOp) (x y:dL):uH T d (.bin c op x y) fr bl k kw = d9 fr x fun a=>d9 fr y fun b=>BM c op a b k:=by
 rw [lF]
 exact RK _
section
variable (kd:IntKind) (x y:Int)
theorem aCz:BM 0 .add (.d (.int kd x)) (.d (.int kd y)) k = k (.d (.int kd (IntKind.wrap kd (x + y)))):=by simp [BM,CK,tW]
theorem aFE:BM 0 .sub (.d (.int kd x)) (.d (.int kd y)) k = k (.d (.int kd (IntKind.wrap kd (x - y)))):=by simp [BM,CK,tW]
theorem aEQ:BM 0 .rem (.d (.int kd x)) (.d (.int kd y)) k = if y = 0 then none else k (.d (.int kd (x.tmod y))):=by
 simp only [BM,CK,tW,if_true]; split <;> rfl
theorem aFx:BM 0 .eql (.d (.int kd x)) (.d (.int kd y)) k = k (.d (.bool (x == y))):=by simp [BM,CK,tW]
theorem aEp:BM 0 .neq (.d (.int kd x)) (.d (.int kd y)) k = k (.d (.bool (x != y))):=by simp [BM,CK,tW]
theorem aDR:BM 0 .lss (.d (.int kd x)) (.d (.int kd y)) k = k (.d (.bool (decide (x < y)))):=by simp [BM,CK,tW]
theorem aFl:BM 0 .leq (.d (.int kd x)) (.d (.int kd y)) k = k (.d (.bool (decide (x ≤ y)))):=by simp [BM,CK,tW]
theorem aDP:BM 0 .gtr (.d (.int kd x)) (.d (.int kd y)) k = k (.d (.bool (decide (x > y)))):=by simp [BM,CK,tW]
theorem aFp:BM 0 .geq (.d (.int kd x)) (.d (.int kd y)) k = k (.d (.bool (decide (x ≥ y)))):=by simp [BM,CK,tW]
end
section
variable (x y:ByteArray)
end
def XK (o:Option D) (k:V→Option β):Option β:=o.bind fun x=>k (.d x)
theorem BP {o o' : Option D} {k:V→Option β} (h:o = o'):XK o k = XK o' k:=by rw [h]
theorem aIB (ks:List Nat) (neg:Bool) (x y:dL):uH T d (.eqS ks neg x y) fr bl k kw = d9 fr x fun a=>d9 fr y fun b=>XK (eqV ks neg a b) k:=by
 rw [lF]
 exact RK _
def yA:List Nat→List V→List V→(Bool→Option β)→Option β:=fun ks xs ys k=>match gV ks xs ys with
 | some b=>k b
 | none=>none
def aEJ (ks:List Nat) (neg:Bool) (a b:V) (k:V→Option β):Option β:=match a,b with
 | .agg xs,.agg ys=>yA ks xs ys fun b=>k (.d (.bool (if neg then !b else b)))
 | _,_=>none
theorem aGb (ks:List Nat) (neg:Bool) (x y:dL):uH T d (.eqS ks neg x y) fr bl k kw = d9 fr x fun a=>d9 fr y fun b=>aEJ ks neg a b k:=by
 rw [aIB]
 unfold d9
 generalize cV (lk fr .any) x = a
 generalize cV (lk fr .any) y = b
 cases a with
 | agg xs=>cases b with
  | agg ys =>
   simp only [eqV,aEJ,yA,XK]
   cases gV ks xs ys <;> rfl
  | _=>rfl
 | _=>cases b <;> rfl
section
variable {k:V→Option β}
theorem aCT (ks:List Nat) (xs:List V) (ys:List D):aEJ ks true (.agg xs) (oJ ys) k = yA ks xs (bM ys) fun b=>k (.d (.bool !b)):=rfl
theorem aDl (ks:List Nat) (xs ys:List D):aEJ ks true (oJ xs) (oJ ys) k = yA ks (bM xs) (bM ys) fun b=>k (.d (.bool !b)):=rfl
theorem aDQ (ks:List Nat) (xs ys:List D):aEJ ks false (oJ xs) (oJ ys) k = yA ks (bM xs) (bM ys) fun b=>k (.d (.bool b)):=rfl
end
section
variable {k:Bool→Option β}
theorem aH0 (kd:IntKind) (x y:Int):yA [0] [.d (.int kd x)] [.d (.int kd y)] k = k (x == y):=by simp [yA,gV,zT]
theorem aJN (kd:IntKind) (x y:Int) (c:Nat) (ks:List Nat) (xs ys:List V):yA (0 :: c :: ks) (.d (.int kd x) :: xs) (.d (.int kd y) :: ys) k = yA (c :: ks) xs ys fun b=>k ((x == y) && b):=by
 simp only [yA,gV,zT,if_true]
 cases gV (c :: ks) xs ys <;> rfl
end
def aC8 (kd:IntKind) (x:Int):List V→(V→Option β)→Option β:=fun l k=>XK (W9 kd x l) k
def aI8 (l:List V) (k:V→Option β):Option β:=XK (aIl l) k
theorem aIo (l:List dL):uH T d (.min l) fr bl k kw = GI fr l fun vs=>aI8 vs k:=by
 rw [lF,SD]
 exact RK _
section
variable {k:V→Option β}
theorem aIk (kd:IntKind) (x:Int) (l:List V):aI8 (.d (.int kd x) :: l) k = aC8 kd x l k:=rfl
theorem aDe (kd:IntKind) (x:Int):aC8 kd x [] k = k (.d (.int kd x)):=rfl
theorem aBG (kd:IntKind) (x y:Int) (l:List V):aC8 kd x (.d (.int kd y) :: l) k = aC8 kd (if y < x then y else x) l k:=by simp [aC8,W9]
end
def unK (op:UnOp) (v:V) (k:V→Option β):Option β:=XK (unV op v) k
theorem aKB (op:UnOp) (x:dL):uH T d (.un op x) fr bl k kw = d9 fr x fun a=>unK op a k:=by
 rw [lF]
 exact RK _
theorem aF6 (b:Bool):unK .not (.d (.bool b)) k = k (.d (.bool !b)):=rfl
theorem aGs (kd:IntKind) (n:Int):unK .neg (.d (.int kd n)) k = k (.d (.int kd (IntKind.wrap kd (0 - n)))):=rfl
def aIY (kd:IntKind) (v:V) (k:V→Option β):Option β:=match v with
 | .d (.int _ n)=>k (.d (.int kd (IntKind.wrap kd n)))
 | _=>none
theorem aFB (kd:IntKind) (x:dL):uH T d (.conv kd x) fr bl k kw = d9 fr x fun a=>aIY kd a k:=by
 unfold uH d9
 simp only [eQ]
 generalize cV (lk fr .any) x = v
 cases v with
 | d x=>cases x <;> rfl
 | _=>rfl
theorem aHW (kd kd' : IntKind) (n:Int):aIY kd (.d (.int kd' n)) k = k (.d (.int kd (IntKind.wrap kd n))):=rfl
def FA (v:V) (bl:List (Nat × Option aL)) (k:List (List D)→Option β):Option β:=(kU (lk bl none) v).bind k
def IA (ver:Nat) (b:Option aL) (k:List (List D)→Option β):Option β:=(aJa ver b).bind k
theorem aEP (rows:List (List D)) (k:List (List D)→Option β):FA (.d (.sl rows)) bl k = k rows:=rfl
theorem aBz (k:List (List D)→Option β):FA .nil bl k = k []:=rfl
theorem OR (id ver:Nat) (k:List (List D)→Option β):FA (.own id ver) bl k = dK bl id fun b=>IA ver b k:=by
 unfold FA dK IA
 simp only [kU]
 generalize lk bl none id = b
 cases b with
 | none=>rfl
 | some b=>cases b <;> rfl
theorem IU (v e s:Nat) (rows:List (List D)) (k:List (List D)→Option β):IA v (some (.rows v e s rows)) k = k rows:=by simp [IA,aJa]
theorem aHJ (x:dL):uH T d (.len x) fr bl k kw = d9 fr x fun a=>FA a bl fun rows=>k (.d (.int .i64 rows.length)):=by
 unfold uH d9 FA
 simp only [eQ]
 cases kU (lk bl none) (cV (lk fr .any) x) <;> rfl
def tJ (ds:List D) (n:Nat) (x:Option β):Option β:=if ds.length = n then x else none
def aEC (size:Nat) (x i:V) (bl:List (Nat × Option aL)) (k:V→Option β):Option β:=AS (RJ size x i (lk bl none)) k fun _ _=>none
theorem aAn {size:Nat} {x i:V} {b:Nat→Option aL} {kw' : V→List (Nat × Option aL)→Option β}:AS (RJ size x i b) k kw = AS (RJ size x i b) k kw':=by
 have:∀ r,RJ size x i b = some r→r.2 = []:=by
  intro r
  unfold RJ
  intro e
  repeat' split at e
  all_goals first | cases e; rfl | cases e
 cases h:RJ size x i b with
 | none=>rfl
 | some r=>obtain ⟨v,wr⟩:=r; have:=this _ h; dsimp only at this; subst this; rfl
theorem N4 (size:Nat) (x i:dL):uH T d (.indexAddr size x i) fr bl k kw = d9 fr x fun a=>d9 fr i fun b=>aEC size a b bl k:=by
 rw [lF,NQ]
 unfold d9 aEC
 exact aAn
theorem aIG {α:Type} (size:Nat) (c:α→List D) (xs:List α) (kd:IntKind) (n:Int):aEC size (.d (.sl (cM c xs))) (.d (.int kd n)) bl k = (at? xs n).bind fun x=>tJ (c x) size (k (.d (.ptr (c x) 0))):=by
 unfold aEC
 rw [ER,aHs]
 rfl
def aCI (size id ver:Nat) (n:Int) (b:Option aL) (k:V→Option β):Option β:=AS (aJk size id ver n b) k fun _ _=>none
theorem aEx (size id ver:Nat) (kd:IntKind) (n:Int):aEC size (.own id ver) (.d (.int kd n)) bl k = dK bl id fun b=>aCI size id ver n b k:=rfl
theorem VH {α:Type} (size id v e:Nat) (n:Int) (c:α→List D) (xs:List α):aCI size id v n (some (.rows v e size (cM c xs))) k = if 0 ≤ n ∧ n.toNat < xs.length then k (.orow id v n.toNat 0) else none:=by
 unfold aCI
 rw [ER,aA7,if_pos rfl,if_pos rfl,aK]
def aH7 (fr:List (Nat × V)) (o:Option dL) (k:Option V→Option β):Option β:=match o with
 | none=>k none
 | some x=>d9 fr x fun v=>k (some v)
theorem aJX (k:Option V→Option β):aH7 fr none k = k none:=rfl
theorem aKg (x:dL) (k:Option V→Option β):aH7 fr (some x) k = d9 fr x fun v=>k (some v):=rfl
def KR (size:Nat) (x:V) (lo hi:Option V) (bl:List (Nat × Option aL)) (k:V→Option β) (kw:V→List (Nat × Option aL)→Option β):Option β:=AS (BX (lk bl none) size x lo hi) k kw
theorem aBI (size:Nat) (x:dL) (lo hi:Option dL):uH T d (.slice size x lo hi) fr bl k kw = d9 fr x fun a=>aH7 fr lo fun l=>aH7 fr hi fun h=>KR size a l h bl k kw:=by
 rw [lF,aB9]
 cases lo <;> cases hi <;> rfl
section
variable {α:Type} (size:Nat) (c:α→List D) (xs:List α) (hs:sized size (cM c xs) = true)
include hs
theorem OM {lo hi:Option V} {l h:Int} (hl:HE lo 0 = some l) (hh:HE hi (xs.length:Int) = some h):KR size (.d (.sl (cM c xs))) lo hi bl k kw = if u5 xs.length l h then k (.d (.sl (cM c (C4 xs l h)))) else none:=by
 unfold KR
 rw [ER,aB8 _ size c xs lo hi l h hl hh hs]
theorem aA6 (kd:IntKind) (l:Int):KR size (.d (.sl (cM c xs))) (some (.d (.int kd l))) none bl k kw = if u5 xs.length l (xs.length:Int) then k (.d (.sl (cM c (C4 xs l (xs.length:Int))))) else none:=OM size c xs hs rfl rfl
theorem aAU (kd:IntKind) (h:Int):KR size (.d (.sl (cM c xs))) none (some (.d (.int kd h))) bl k kw = if u5 xs.length 0 h then k (.d (.sl (cM c (C4 xs 0 h)))) else none:=OM size c xs hs rfl rfl
end
def M8 (e size bytes d:Nat) (x y:V) (bl:List (Nat × Option aL)) (kw:V→List (Nat × Option aL)→Option β):Option β:=FA y bl fun new =>
 if sized size new = true then
   match x with
   | .nil=>dK bl d fun b=>jR b (if new.length * bytes ≤ 140737488355328 then kw (.own d 0) [(d,some (.rows 0 e size new))] else none)
   | .own id ver=>dK bl id fun b=>match b with
    | some (.rows v e' size' rows)=>if ver = v ∧ e' = e ∧ size' = size ∧ (rows.length + new.length) * bytes ≤ 140737488355328 then kw (.own id (ver + 1)) [(id,some (.rows (ver + 1) e size (rows ++ new)))] else none
    | _=>none
   | _=>none
   else none
theorem V2 (e size bytes:Nat) (x y:dL):uH T d (.append e size bytes x y) fr bl k kw = d9 fr x fun a=>d9 fr y fun b=>M8 e size bytes d a b bl kw:=by
 unfold uH d9 M8 FA dK jR
 simp only [eQ]
 generalize cV (lk fr .any) x = v
 cases kU (lk bl none) (cV (lk fr .any) y) with
 | none=>rfl
 | some new =>
  simp only [Option.bind_some]
  by_cases hs:sized size new = true
  ·rw [if_pos hs,if_pos hs]
   cases v with
   | nil =>
    simp only
    cases lk bl none d with
    | none =>
     simp only
     by_cases h:new.length * bytes ≤ 140737488355328
     ·rw [if_pos h,if_pos h]
     ·rw [if_neg h,if_neg h]
    | some b=>rfl
   | own id ver =>
    simp only
    generalize lk bl none id = b
    cases b with
    | none=>rfl
    | some b=>cases b with
     | rows v e' size' rows =>
      simp only
      by_cases h:ver = v ∧ e' = e ∧ size' = size ∧ (rows.length + new.length) * bytes ≤ 140737488355328
      ·rw [if_pos h,if_pos h]
      ·rw [if_neg h,if_neg h]
     | _=>rfl
   | _=>rfl
  ·rw [if_neg hs,if_neg hs]
def PY {α:Type} (e size bytes d:Nat) (x:V) (c:α→List D) (ys:List α) (bl:List (Nat × Option aL)) (kw:V→List (Nat × Option aL)→Option β):Option β:=match x with
   | .nil=>dK bl d fun b=>jR b (if ys.length * bytes ≤ 140737488355328 then kw (.own d 0) [(d,some (.rows 0 e size (cM c ys)))] else none)
   | .own id ver=>dK bl id fun b=>match b with
    | some (.rows v e' size' rows)=>if ver = v ∧ e' = e ∧ size' = size ∧ (rows.length + ys.length) * bytes ≤ 140737488355328 then kw (.own id (ver + 1)) [(id,some (.rows (ver + 1) e size (rows ++ cM c ys)))] else none
    | _=>none
   | _=>none
theorem PX {α:Type} (e size bytes d:Nat) (x y:V) (c:α→List D) (ys:List α) (hy:∀ k' : List (List D)→Option β,FA y bl k' = k' (cM c ys)) (hs:sized size (cM c ys) = true):M8 e size bytes d x y bl kw = PY e size bytes d x c ys bl kw:=by
 unfold M8 PY
 rw [hy,if_pos hs,aK]
theorem Y8 {α:Type} (e size bytes d:Nat) (x:V) (c:α→List D) (ys:List α) (hs:sized size (cM c ys) = true):M8 e size bytes d x (.d (.sl (cM c ys))) bl kw = PY e size bytes d x c ys bl kw:=PX e size bytes d x _ c ys (fun _=>rfl) hs
def aCX (e size bytes d:Nat) (x:V) (ver:Nat) (b:Option aL) (bl:List (Nat × Option aL)) (kw:V→List (Nat × Option aL)→Option β):Option β:=IA ver b fun new=>M8 e size bytes d x (.d (.sl new)) bl kw
theorem aDy (e size bytes d id ver:Nat) (x:V):M8 e size bytes d x (.own id ver) bl kw = dK bl id fun b=>aCX e size bytes d x ver b bl kw:=by
 show M8 e size bytes d x (.own id ver) bl kw = IA ver (lk bl none id) fun new=>M8 e size bytes d x (.d (.sl new)) bl kw
 unfold M8
 rw [OR]
 rfl
theorem YH {α:Type} (e size bytes d v e' s' : Nat) (x:V) (c:α→List D) (ys:List α) (hs:sized size (cM c ys) = true):aCX e size bytes d x v (some (.rows v e' s' (cM c ys))) bl kw = PY e size bytes d x c ys bl kw:=by
 unfold aCX
 rw [IU,Y8 _ _ _ _ _ _ _ hs]
def aCH {α:Type} (e size bytes id ver:Nat) (c:α→List D) (ys:List α) (b:Option aL) (kw:V→List (Nat × Option aL)→Option β):Option β:=match b with
    | some (.rows v e' size' rows)=>if ver = v ∧ e' = e ∧ size' = size ∧ (rows.length + ys.length) * bytes ≤ 140737488355328 then kw (.own id (ver + 1)) [(id,some (.rows (ver + 1) e size (rows ++ cM c ys)))] else none
    | _=>none
theorem aAq {α:Type} (e size bytes d id ver:Nat) (c:α→List D) (ys:List α):PY e size bytes d (.own id ver) c ys bl kw = dK bl id fun b=>aCH e size bytes id ver c ys b kw:=rfl
theorem V6 {α:Type} (e size bytes id v:Nat) (c:α→List D) (xs ys:List α):aCH e size bytes id v c ys (some (.rows v e size (cM c xs))) kw = if (xs.length + ys.length) * bytes ≤ 140737488355328 then kw (.own id (v + 1)) [(id,some (.rows (v + 1) e size (cM c (xs ++ ys))))] else none:=by
 simp only [aCH,true_and,aK,aCb]
def PQ (e:Nat) (rows:List (List D)) (k:List (List D)→Option β):Option β:=k rows
def P0 (v:V) (bl:List (Nat × Option aL)) (k:List D→List (Nat × Option aL)→Option β):Option β:=match bB (mN (lk bl none)) v.cells with
 | some row=>k row (sX (lk bl none) v)
 | none=>none
end
section
end
end
end Vm
end Go.Proofs.Ytiimibimkpimbaa
