/- The small machine's code, read from the front: what is left to do stands in a continuation. Equations by which the small machine's code is read (they are named in the proofs that a program prints). The small machine, read from the front by rewriting at the head only: every value is looked up before it is used. -/
import Derived.Test.YtiimibimkpimbaaVmD
set_option linter.unusedVariables false
set_option linter.unusedSimpArgs false
namespace Go.Proofs.Ytiimibimkpimbaa
namespace Vm
open Go.RowKit
section
variable {β:Type}
noncomputable def eB (T:vW) (c:aT) (s:St) (k:Ex->St->Option β):Option β:=(ev T c s).bind fun p=>k p.1 p.2
noncomputable def tN (T:vW) (l:List bK) (s:St) (k:St->Option β):Option β:=(lJ (call T) l s).bind k
noncomputable def aHq (T:vW) (l:List bK) (ps:List (Nat × Nat)) (s:St) (k:St->Option β):Option β:=(gK (call T) l (some ps) s).bind k
def G2 (r:FZ) (k:V->List (Nat × Option aM)->Option β):Option β:=match r with
 | some (v,wr)=>k v wr
 | none=>none
def S6 (v:V) (x y:Option β):Option β:=match v with
 | .d (.bool b)=>if b = true then x else y
 | _=>none
def aG9 (k1:St->Option β) (k:Ex->St->Option β):Ex->St->Option β
 | .normal,s=>k1 s
 | e,s=>k e s
def MG (id:Nat) (k:Ex->St->Option β):Ex->St->Option β
 | .exit id',s=>if id' = id then k .normal s else k (.exit id') s
 | e,s=>k e s
def TY (m:yX) (k:Ex->St->Option β):Ex->St->Option β
 | .normal,s=>k .normal (m.app s)
 | e,s=>k e s
theorem xZ {v v' : V} {x y:Option β} (h:v = v'):S6 v x y = S6 v' x y:=by rw [h]
theorem aBQ (v:V) (wr:List (Nat × Option aM)) (k:V->List (Nat × Option aM)->Option β):G2 (some (v,wr)) k = k v wr:=rfl
theorem U4 (b:Bool) (x y:Option β):S6 (.d (.bool b)) x y = if b = true then x else y:=rfl
variable {T:vW} {k:Ex->St->Option β}
theorem aFk (s:St):eB T .skip s k = k .normal s:=by unfold eB; rw [aF2]; rfl
theorem aEJ (id:Nat) (s:St):eB T (.exit id) s k = k (.exit id) s:=by unfold eB; rw [aId]; rfl
theorem aHH (s:St):eB T .ret s k = k .ret s:=by unfold eB; rw [aI3]; rfl
theorem W2 (l:List bK) (s:St):eB T (.region l none) s k = tN T l s (k .normal):=by
 unfold eB tN
 rw [PD]
 simp only [gK]
 cases lJ (call T) l s <;> rfl
theorem aD6 (l:List bK) (ps:List (Nat × Nat)) (s:St):eB T (.region l (some ps)) s k = aHq T l ps s (k .normal):=by
 unfold eB aHq
 rw [PD]
 cases gK (call T) l (some ps) s <;> rfl
theorem aHg (a b:aT) (s:St):eB T (.seq a b) s k = eB T a s (aG9 (fun s'=>eB T b s' k) k):=by
 unfold eB
 rw [aJk]
 cases ev T a s with
 | none=>rfl
 | some r =>
  obtain ⟨e,s'⟩:=r
  cases e <;> rfl
theorem aEH (c:dG) (a b:aT) (s:St):eB T (.cond c a b) s k = S6 (cX s.get c) (eB T a s k) (eB T b s k):=by
 unfold eB
 rw [aG5]
 generalize cX s.get c = v
 cases v with
 | d x=>cases x with
  | bool b=>cases b <;> rfl
  | _=>rfl
 | _=>rfl
theorem aBv (id:Nat) (a:aT) (s:St):eB T (.block id a) s k = eB T a s (MG id k):=by
 unfold eB
 rw [aEF]
 cases ev T a s with
 | none=>rfl
 | some r =>
  obtain ⟨e,s'⟩:=r
  cases e with
  | normal=>rfl
  | exit i =>
   simp only [Option.bind_some,MG]
   by_cases h:i = id
   ·simp [h]
   ·simp [h]
  | ret=>rfl
theorem aGx (m:yX) (a:aT) (s:St):eB T (.pre m a) s k = eB T a (m.app s) k:=rfl
theorem aFq (m:yX) (a:aT) (s:St):eB T (.post a m) s k = eB T a s (TY m k):=by
 unfold eB
 rw [aHx]
 cases ev T a s with
 | none=>rfl
 | some r =>
  obtain ⟨e,s'⟩:=r
  cases e <;> rfl
theorem cO {S X:Type} {step:S->Option (S ⊕ X)} {c:aT} (enc:S->St) (out:X->Ex × St) (hout:∀ x s,out x ≠ (.normal,s))
  (h:∀ s,eB T c (enc s) (fun e s'=>some (e,s')) = eN enc out (step s)) (s:S) :
  eB T (.loop c) (enc s) k = (eW step s).bind fun x=>k (out x).1 (out x).2:=by
 unfold eB
 rw [aEi enc out hout (fun s=>by
  have:=h s
  unfold eB at this
  rw [← this]
  cases ev T c (enc s) <;> rfl) s]
 cases eW step s <;> rfl
theorem aHL (ops:List bK) (args:List dG) (dst:Option Nat) (f:Nat) (body:aT) (res:List nC) (id:Nat) (slots:List Nat) (s:St) :
  eB T (.inl ops args dst f body res id slots) s k = tN T ops s fun s1=>(OP args id slots s1).bind fun s2=>eB T body s2 fun ex s3=>match ex with
   | .exit _=>none
   | _=>(pU dst res id slots s3).bind fun s4=>k .normal s4:=by
 unfold eB tN
 rw [aJD]
 cases lJ (call T) ops s with
 | none=>rfl
 | some s1 =>
  simp only [Option.bind_some]
  cases OP args id slots s1 with
  | none=>rfl
  | some s2 =>
   simp only [Option.bind_some]
   cases ev T body s2 with
   | none=>rfl
   | some q =>
    obtain ⟨e,s3⟩:=q
    cases e with
    | normal=>simp only [Option.bind_some]; cases pU dst res id slots s3 <;> rfl
    | exit i=>rfl
    | ret=>simp only [Option.bind_some]; cases pU dst res id slots s3 <;> rfl
theorem aIX (k1:St->Option β) (k:Ex->St->Option β) (s:St):aG9 k1 k .normal s = k1 s:=rfl
theorem aJt (k1:St->Option β) (k:Ex->St->Option β) (i:Nat) (s:St):aG9 k1 k (.exit i) s = k (.exit i) s:=rfl
theorem aJf (k1:St->Option β) (k:Ex->St->Option β) (s:St):aG9 k1 k .ret s = k .ret s:=rfl
theorem aEI (id:Nat) (k:Ex->St->Option β) (s:St):MG id k .normal s = k .normal s:=rfl
theorem aC0 (id:Nat) (k:Ex->St->Option β) (i:Nat) (s:St):MG id k (.exit i) s = if i = id then k .normal s else k (.exit i) s:=rfl
theorem aCh (id:Nat) (k:Ex->St->Option β) (s:St):MG id k .ret s = k .ret s:=rfl
theorem aIn (m:yX) (k:Ex->St->Option β) (s:St):TY m k .normal s = k .normal (m.app s):=rfl
theorem aIl (m:yX) (k:Ex->St->Option β) (i:Nat) (s:St):TY m k (.exit i) s = k (.exit i) s:=rfl
theorem aH3 (m:yX) (k:Ex->St->Option β) (s:St):TY m k .ret s = k .ret s:=rfl
theorem aDz (s:St) (k:St->Option β):tN T [] s k = k s:=rfl
theorem OT (d:Option Nat) (op:jG) (st:Nat) (l:List bK) (s:St) (k:St->Option β) :
  tN T (⟨d,op,none,st⟩ :: l) s k = G2 (eH (call T) st (cX s.get) s.blk op) fun v wr=>tN T l (s.put d v wr) k:=by
 unfold tN G2
 simp only [lJ,vS,bK.wants]
 cases eH (call T) st (cX s.get) s.blk op with
 | none=>rfl
 | some r=>rfl
noncomputable def m9 (T:vW):List bK->St->List Fp->(St->List Fp->Option β)->Option β
 | [],s,fp,k=>k s fp
 | o :: l,s,fp,k=>match jZ (call T) o s with
  | some (s',p)=>m9 T l s' (p :: fp) k
  | none=>none
theorem aEY (l:List bK) (s:St) (fp:List Fp) (k:St->List Fp->Option β):m9 T l s fp k = (jF (call T) l s).bind fun r=>k r.1 (r.2.reverse ++ fp):=by
 induction l generalizing s fp with
 | nil=>rfl
 | cons o l ih =>
  simp only [m9,jF]
  cases jZ (call T) o s with
  | none=>rfl
  | some q =>
   obtain ⟨s',p⟩:=q
   simp only [ih]
   cases jF (call T) l s' with
   | none=>rfl
   | some r=>obtain ⟨s'',ps⟩:=r; simp
def aFT (l:List bK) (ps:List (Nat × Nat)) (k:St->Option β) (s:St) (fp:List Fp):Option β:=if GW l fp.reverse ps = true then k s else none
theorem aGL (l:List bK) (ps:List (Nat × Nat)) (s:St) (k:St->Option β):aHq T l ps s k = m9 T l s [] (aFT l ps k):=by
 rw [aEY]
 unfold aHq
 simp only [gK]
 cases jF (call T) l s with
 | none=>rfl
 | some r =>
  obtain ⟨s',fp⟩:=r
  simp only [Option.bind_some,aFT,List.append_nil,List.reverse_reverse]
  cases h:GW l fp ps <;> simp
theorem MY (d:Option Nat) (op:jG) (st:Nat) (l:List bK) (s:St) (fp:List Fp) (k:St->List Fp->Option β) :
  m9 T (⟨d,op,none,st⟩ :: l) s fp k = G2 (eH (call T) st (cX s.get) s.blk op) fun v wr=>m9 T l (s.put d v wr) (uY ⟨d,op,none,st⟩ s.get s.blk wr :: fp) k:=by
 unfold G2
 simp only [m9,jZ,bK.wants]
 cases eH (call T) st (cX s.get) s.blk op with
 | none=>rfl
 | some r=>rfl
theorem FP (fr:List (Nat × V)) (bl:List (Nat × Option aM)) (t:Nat):St.get ⟨fr,bl⟩ t = lk fr .any t:=rfl
theorem aE4 (fr:List (Nat × V)) (bl:List (Nat × Option aM)) (i:Nat):St.blk ⟨fr,bl⟩ i = lk bl none i:=rfl
theorem aKC (live keep:List Nat) (p:Nat × Nat × Nat × Nat) (l:List (Nat × Nat × Nat × Nat)) (c:List (Nat × Nat × Nat × Nat × Nat)) (ft:List Nat) (fc:List (Nat × Nat)) (s:St):yX.app ⟨live,keep,p :: l,c,ft,fc⟩ s = yX.app ⟨live,keep,l,c,ft,fc⟩ (mkT p s):=rfl
end
end Vm
end Go.Proofs.Ytiimibimkpimbaa
set_option linter.unusedVariables false
set_option linter.unusedSimpArgs false
namespace Go.Proofs.Ytiimibimkpimbaa
namespace Vm
open Go.RowKit
def at? {α:Type} (xs:List α) (n:Int):Option α:=if 0 <= n then xs[n.toNat]? else none
def cI (n:Int):List D:=[.int .i64 n]
def cB (b:Bool):List D:=[.bool b]
def cS (s:ByteArray):List D:=[.str s]
def cK (k:IntKind) (n:Int):List D:=[.int k n]
def cM {α:Type} (c:α->List D) (xs:List α):List (List D):=xs.map c
def cL {α:Type} (c:α->List D) (xs:List α):List D:=[.sl (cM c xs)]
def gX {α:Type} (xs:List α) (l h:Int):List α:=(xs.take h.toNat).drop l.toNat
def qC (n:Nat) (l h:Int):Prop:=0 <= l ∧ l <= h ∧ h.toNat <= n
instance (n:Nat) (l h:Int):Decidable (qC n l h):=inferInstanceAs (Decidable (_ ∧ _ ∧ _))
section
variable {β:Type} {T:vW} {site:Nat} {ev:dG->V} {bl:Nat->Option aM} (k:V->List (Nat × Option aM)->Option β)
def QK (size:Nat) (x i:V) (bl:Nat->Option aM):FZ:=match i with
  | .d (.int _ n)=>match x with
   | .own id ver=>match bl id with
    | some (.rows v e sz rows)=>if ver = v ∧ sz = size ∧ 0 <= n ∧ n.toNat < rows.length then some (.orow id ver n.toNat 0,[]) else none
    | some (.froz v rows)=>if ver = v ∧ 0 <= n then match rows[n.toNat]? with
     | some row=>if row.length = size then some (.d (.ptr row 0),[]) else none
     | none=>none
     else none
    | _=>none
   | .d (.sl rows)=>if 0 <= n then match rows[n.toNat]? with
    | some row=>if row.length = size then some (.d (.ptr row 0),[]) else none
    | none=>none
    else none
   | _=>none
  | _=>none
theorem NB (C:Nat->List D->Option D) (size:Nat) (x i:dG):eH C site ev bl (.indexAddr size x i) = QK size (ev x) (ev i) bl:=rfl
theorem aIh {α:Type} (size:Nat) (c:α->List D) (xs:List α) (kd:IntKind) (n:Int) (bl:Nat->Option aM):G2 (QK size (.d (.sl (cM c xs))) (.d (.int kd n)) bl) k = (at? xs n).bind fun x=>if (c x).length = size then k (.d (.ptr (c x) 0)) [] else none:=by
 simp only [QK,at?,cM]
 by_cases h:0 <= n
 ·rw [if_pos h,if_pos h,List.getElem?_map]
  cases xs[n.toNat]? with
  | none=>rfl
  | some x =>
   simp only [Option.map_some,Option.bind_some]
   by_cases h2:(c x).length = size
   ·rw [if_pos h2,if_pos h2]; rfl
   ·rw [if_neg h2,if_neg h2]; rfl
 ·rw [if_neg h,if_neg h]; rfl
def aKm (size id ver:Nat) (n:Int) (b:Option aM):FZ:=match b with
 | some (.rows v e sz rows)=>if ver = v ∧ sz = size ∧ 0 <= n ∧ n.toNat < rows.length then some (.orow id ver n.toNat 0,[]) else none
 | some (.froz v rows)=>if ver = v ∧ 0 <= n then match rows[n.toNat]? with
  | some row=>if row.length = size then some (.d (.ptr row 0),[]) else none
  | none=>none
  else none
 | _=>none
theorem aBg (size id ver v e sz:Nat) (n:Int) (rows:List (List D)) (k:V->List (Nat × Option aM)->Option β):G2 (aKm size id ver n (some (.rows v e sz rows))) k = if ver = v then (if sz = size then (if 0 <= n ∧ n.toNat < rows.length then k (.orow id ver n.toNat 0) [] else none) else none) else none:=by
 simp only [aKm]
 by_cases h1:ver = v
 ·by_cases h2:sz = size
  ·by_cases h3:0 <= n ∧ n.toNat < rows.length
   ·rw [if_pos ⟨h1,h2,h3⟩,if_pos h1,if_pos h2,if_pos h3]; rfl
   ·rw [if_neg (fun q=>h3 q.2.2),if_pos h1,if_pos h2,if_neg h3]; rfl
  ·rw [if_neg (fun q=>h2 q.2.1),if_pos h1,if_neg h2]; rfl
 ·rw [if_neg (fun q=>h1 q.1),if_neg h1]; rfl
def TF (size:Nat) (isAgg:Bool) (off:Nat) (row:List D):FZ :=
 if isAgg then (if off + size <= row.length then some (.agg (((row.drop off).take size).map .d),[]) else none) else row[off]?.map fun v=>(.d v,[])
def YU (size:Nat) (isAgg:Bool) (off:Nat) (b:Option aM):FZ:=match b with
 | some (.box cs) =>
  if isAgg then (if off + size <= cs.length then some (.agg ((cs.drop off).take size),[]) else none)
  else cs[off]?.map fun v=>(v,[])
 | some (.fbox row)=>TF size isAgg off row
 | _=>none
def aCl (size:Nat) (isAgg:Bool) (ver i off:Nat) (b:Option aM):FZ:=match b with
 | some (.rows v e sz rows)=>if ver = v then match rows[i]? with
  | some row=>TF size isAgg off row
  | none=>none
  else none
 | _=>none
def GS (size:Nat) (isAgg:Bool) (x:V) (bl:Nat->Option aM):FZ:=match x with
 | .ptr id off=>YU size isAgg off (bl id)
 | .d (.ptr row off)=>TF size isAgg off row
 | .orow id ver i off=>aCl size isAgg ver i off (bl id)
 | _=>none
theorem DA (C:Nat->List D->Option D) (size:Nat) (isAgg:Bool) (x:dG):eH C site ev bl (.load size isAgg x) = GS size isAgg (ev x) bl:=rfl
theorem aAX (size:Nat) (isAgg:Bool) (id off:Nat) (bl:Nat->Option aM):GS size isAgg (.ptr id off) bl = YU size isAgg off (bl id):=rfl
theorem aH0 (size:Nat) (isAgg:Bool) (id ver i off:Nat) (bl:Nat->Option aM):GS size isAgg (.orow id ver i off) bl = aCl size isAgg ver i off (bl id):=rfl
theorem aHS (size off:Nat) (cs:List V):YU size true off (some (.box cs)) = if off + size <= cs.length then some (.agg ((cs.drop off).take size),[]) else none:=rfl
theorem aIv (size off:Nat) (cs:List V):YU size false off (some (.box cs)) = cs[off]?.map fun v=>(v,[]):=rfl
def KK (size ver i off id:Nat) (fz:List (Nat × Option aM)) (ds:Option (List D)) (b:Option aM):FZ:=match b with
 | some (.rows w e sz rows)=>if ver = w then match rows[i]?,ds with
  | some row,some ds=>if ds.length = size ∧ off + size <= row.length ∧ w8 id fz = true then some (.any,(id,some (.rows w e sz (rows.set i (jY row off ds)))) :: fz) else none
  | _,_=>none
  else none
 | _=>none
def VC (size off id:Nat) (v:V) (b:Option aM):FZ:=match b with
 | some (.box cs)=>if v.cells.length = size ∧ off + size <= cs.length ∧ v.known = true then some (.any,[(id,some (.box (jY cs off v.cells)))]) else none
 | _=>none
def XW (size:Nat) (x v:V) (bl:Nat->Option aM):FZ:=match x with
 | .ptr id off=>VC size off id v (bl id)
 | .orow id ver i off=>KK size ver i off id (sW bl v) (bB (mJ bl) v.cells) (bl id)
 | _=>none
theorem aAY (C:Nat->List D->Option D) (size:Nat) (x v:dG):eH C site ev bl (.store size x v) = XW size (ev x) (ev v) bl:=rfl
theorem aEk (size id off:Nat) (v:V) (bl:Nat->Option aM):XW size (.ptr id off) v bl = VC size off id v (bl id):=rfl
theorem aCf (size id ver i off:Nat) (v:V) (bl:Nat->Option aM):XW size (.orow id ver i off) v bl = KK size ver i off id (sW bl v) (bB (mJ bl) v.cells) (bl id):=rfl
theorem VT (size off id:Nat) (v:V) (cs:List V):VC size off id v (some (.box cs)) = if v.cells.length = size ∧ off + size <= cs.length ∧ v.known = true then some (.any,[(id,some (.box (jY cs off v.cells)))]) else none:=rfl
theorem aBG (C:Nat->List D->Option D) (size:Nat) (x:dG) (lo hi:Option dG):eH C site ev bl (.slice size x lo hi) = BO bl size (ev x) (lo.map ev) (hi.map ev):=rfl
def aIB (ver:Nat) (b:Option aM):Option (List (List D)):=match b with
 | some (.rows v _ _ rows)=>if ver = v then some rows else none
 | some (.froz v rows)=>if ver = v then some rows else none
 | _=>none
def HT (v:Option V) (d:Int):Option Int:=match v with
 | none=>some d
 | some (.d (.int _ h))=>some h
 | _=>none
theorem aBL {α:Type} (size:Nat) (c:α->List D) (xs:List α) (lo hi:Option V) (l h:Int) (hl:HT lo 0 = some l) (hh:HT hi (xs.length:Int) = some h) (hs:sized size (cM c xs) = true) (bl:Nat->Option aM):G2 (BO bl size (.d (.sl (cM c xs))) lo hi) k = if qC xs.length l h then k (.d (.sl (cM c (gX xs l h)))) [] else none:=by
 have e0:∀ lo' hi',BO bl size (.d (.sl (cM c xs))) lo' hi' = (match HT hi' ((cM c xs).length:Int),HT lo' 0 with
   | some h,some l=>if 0 <= l ∧ l <= h ∧ h.toNat <= (cM c xs).length ∧ sized size (cM c xs) = true then some (.d (.sl (((cM c xs).take h.toNat).drop l.toNat)),[]) else none
   | _,_=>none):=fun lo' hi'=>rfl
 rw [e0,show ((cM c xs).length:Int) = (xs.length:Int) by simp [cM],hl,hh]
 simp only [show (cM c xs).length = xs.length by simp [cM]]
 by_cases q:qC xs.length l h
 ·rw [if_pos q,if_pos ⟨q.1,q.2.1,q.2.2,hs⟩]
  simp only [aBQ,cM,gX,List.map_drop,List.map_take]
 ·rw [if_neg q,if_neg (fun w=>q ⟨w.1,w.2.1,w.2.2.1⟩)]; rfl
end
section
variable {S X:Type} {enc:S->St} {out:X->Ex × St}
theorem aR (c:Prop) [Decidable c] (a b:Option (S ⊕ X)):eN enc out (if c then a else b) = if c then eN enc out a else eN enc out b:=by split <;> rfl
theorem aG {α:Type} (o:Option α) (f:α->Option (S ⊕ X)):eN enc out (o.bind f) = o.bind fun x=>eN enc out (f x):=by cases o <;> rfl
theorem aH:eN enc out none = none:=rfl
theorem aP (s:S):eN enc out (some (.inl s)) = some (.normal,enc s):=rfl
theorem aQ (x:X):eN enc out (some (.inr x)) = some (out x):=rfl
end
theorem qG {α:Type} (size:Nat) (c:α->List D) (hc:∀ x,(c x).length = size) (xs:List α):sized size (cM c xs) = true:=by
 simp [sized,cM,hc]
theorem aX (xs:List Int):sized 1 (cM cI xs) = true:=qG _ _ (fun x=>by rfl) xs
theorem aU (k:IntKind) (xs:List Int):sized 1 (cM (cK k) xs) = true:=qG _ _ (fun x=>by rfl) xs
theorem aV (xs:List Bool):sized 1 (cM cB xs) = true:=qG _ _ (fun x=>by rfl) xs
theorem a8 (xs:List ByteArray):sized 1 (cM cS xs) = true:=qG _ _ (fun x=>by rfl) xs
theorem aZ {α:Type} (c:α->List D) (xs:List (List α)):sized 1 (cM (cL c) xs) = true:=qG _ _ (fun x=>by rfl) xs
theorem aL {α:Type} (c:α->List D) (xs:List α):(cM c xs).length = xs.length:=by simp [cM]
theorem aBI {α:Type} (c:α->List D) (xs ys:List α):cM c xs ++ cM c ys = cM c (xs ++ ys):=by simp [cM]
theorem aJB {α:Type} (c:α->List D) (xs:List α) (i:Nat) (x:α):cM c (xs.set i x) = (cM c xs).set i (c x):=by simp [cM,List.map_set]
theorem QO {α:Type} (c:α->List D) (n:Nat) (x:α):cM c (List.replicate n x) = List.replicate n (c x):=by simp [cM]
theorem aY {α γ:Type} (c:Prop) [Decidable c] (a b:Option α) (f:α->Option γ):(if c then a else b).bind f = if c then a.bind f else b.bind f:=by split <;> rfl
theorem bH {α γ:Type} (c:Prop) [Decidable c] (a b:Option α) (f:α->γ):(if c then a else b).map f = if c then a.map f else b.map f:=by split <;> rfl
theorem bind_map {α γ δ:Type} (o:Option α) (f:α->Option γ) (g:γ->δ):(o.bind f).map g = o.bind fun x=>(f x).map g:=by cases o <;> rfl
theorem aS {α γ:Type} (f:α->Option γ):(none:Option α).bind f = none:=rfl
theorem aO {α γ δ ε:Type} (f:α->Option δ) (g:γ->Option δ) (x:α ⊕ γ) (h:δ->Option ε):(Sum.elim f g x).bind h = Sum.elim (fun y=>(f y).bind h) (fun y=>(g y).bind h) x:=by cases x <;> rfl
theorem aW {α γ δ ε:Type} (f:α->Option δ) (g:γ->Option δ) (x:α ⊕ γ) (h:δ->ε):(Sum.elim f g x).map h = Sum.elim (fun y=>(f y).map h) (fun y=>(g y).map h) x:=by cases x <;> rfl
def gIf {α:Type} (b:Bool) (x y:α):α:=if b = true then x else y
theorem bO {α:Type} (b:Bool) (x y:α):gIf b x y = if b = true then x else y:=rfl
theorem aJ {S X α γ:Type} {enc:S->St} {out:X->Ex × St} (f:α->Option (S ⊕ X)) (g:γ->Option (S ⊕ X)) (x:α ⊕ γ):eN enc out (Sum.elim f g x) = Sum.elim (fun y=>eN enc out (f y)) (fun y=>eN enc out (g y)) x:=by cases x <;> rfl
def aMA (sf:gB):Ex->St->Option D
 | .normal,s=>C6 sf s
 | .ret,s=>C6 sf s
 | .exit _,_=>none
theorem UH {T:vW} {f:Nat} {sf:gB} (hf:T f = some (.code sf)) (ds:List D) (hl:ds.length = sf.np) (hlt:iO 0 ds = none):Vm.call T f ds = eB T sf.body ⟨oJ 0 ds,[]⟩ (aMA sf):=by
 rw [aHs hf ds hl hlt]
 unfold eB
 cases Vm.ev T sf.body ⟨oJ 0 ds,[]⟩ with
 | none=>rfl
 | some q =>
  obtain ⟨e,s⟩:=q
  cases e <;> rfl
theorem bL {α β:Type} (o:Option α) {f g:α->Option β} (h:∀ x,f x = g x):o.bind f = o.bind g:=by rw [funext h]
end Vm
end Go.Proofs.Ytiimibimkpimbaa
set_option linter.unusedVariables false
set_option linter.unusedSimpArgs false
namespace Go.Proofs.Ytiimibimkpimbaa
namespace Vm
open Go.RowKit
section
variable {β:Type}
def qR (fr:List (Nat × V)) (t:Nat) (k:V->Option β):Option β:=k (lk fr .any t)
def dF (bl:List (Nat × Option aM)) (i:Nat) (k:Option aM->Option β):Option β:=k (lk bl none i)
def dX (fr:List (Nat × V)) (o:dG) (k:V->Option β):Option β:=k (cX (lk fr .any) o)
theorem aFj (t:Nat) (v:V) (fr:List (Nat × V)) (k:V->Option β):qR ((t,v) :: fr) t k = k v:=by simp [qR,lk]
theorem aB3 (a t:Nat) (v:V) (fr:List (Nat × V)) (k:V->Option β) (h:(t == a) = false):qR ((a,v) :: fr) t k = qR fr t k:=by
 have:¬ t = a:=by simpa using h
 simp [qR,lk,this]
theorem aCK (t:Nat) (v:Option aM) (fr:List (Nat × Option aM)) (k:Option aM->Option β):dF ((t,v) :: fr) t k = k v:=by simp [dF,lk]
theorem aBA (a t:Nat) (v:Option aM) (fr:List (Nat × Option aM)) (k:Option aM->Option β) (h:(t == a) = false):dF ((a,v) :: fr) t k = dF fr t k:=by
 have:¬ t = a:=by simpa using h
 simp [dF,lk,this]
theorem aDI (t:Nat) (k:Option aM->Option β):dF [] t k = k none:=rfl
theorem aIo (bl:List (Nat × Option aM)) (t:Nat) (k:Option aM->Option β):dF ([] ++ bl) t k = dF bl t k:=rfl
theorem aGj (p:Nat × Option aM) (w bl:List (Nat × Option aM)) (t:Nat) (k:Option aM->Option β):dF ((p :: w) ++ bl) t k = dF (p :: (w ++ bl)) t k:=rfl
theorem aKq (fr:List (Nat × V)) (t:Nat) (k:V->Option β):dX fr (.t t) k = qR fr t k:=rfl
theorem aI1 (fr:List (Nat × V)) (v:V) (k:V->Option β):dX fr (.c v) k = k v:=rfl
def bQ (ds:List D):List V:=ds.map .d
def oC (ds:List D):V:=.agg (bQ ds)
noncomputable def uG (T:vW) (d:Nat) (op:jG) (fr:List (Nat × V)) (bl:List (Nat × Option aM)) (k:V->Option β) (kw:V->List (Nat × Option aM)->Option β):Option β :=
 match eH (call T) d (cX (lk fr .any)) (lk bl none) op with
 | none=>none
 | some (v,[])=>k v
 | some (v,p :: wr)=>kw v (p :: wr)
theorem aAQ {T:vW} (d st:Nat) (op:jG) (l:List bK) (fr:List (Nat × V)) (bl:List (Nat × Option aM)) (k:St->Option β) :
  tN T (⟨some d,op,none,st⟩ :: l) ⟨fr,bl⟩ k = uG T st op fr bl (fun v=>tN T l ⟨(d,v) :: fr,bl⟩ k) (fun v wr=>tN T l ⟨(d,v) :: fr,wr ++ bl⟩ k):=by
 rw [OT]
 unfold uG G2
 show (match eH (call T) st (cX (lk fr .any)) (lk bl none) op with | some (v,wr)=>_ | none=>none) = _
 cases eH (call T) st (cX (lk fr .any)) (lk bl none) op with
 | none=>rfl
 | some r=>obtain ⟨v,wr⟩:=r; cases wr <;> rfl
theorem XA {T:vW} (st:Nat) (op:jG) (l:List bK) (fr:List (Nat × V)) (bl:List (Nat × Option aM)) (k:St->Option β) :
  tN T (⟨none,op,none,st⟩ :: l) ⟨fr,bl⟩ k = uG T st op fr bl (fun _=>tN T l ⟨fr,bl⟩ k) (fun _ wr=>tN T l ⟨fr,wr ++ bl⟩ k):=by
 rw [OT]
 unfold uG G2
 show (match eH (call T) st (cX (lk fr .any)) (lk bl none) op with | some (v,wr)=>_ | none=>none) = _
 cases eH (call T) st (cX (lk fr .any)) (lk bl none) op with
 | none=>rfl
 | some r=>obtain ⟨v,wr⟩:=r; cases wr <;> rfl
def b8 (t:Nat) (b:Bool) (op:jG):jG:=match op with
 | .pick (.t t') x y=>if t' = t then .move (if b then x else y) else op
 | op=>op
def b9 (t:Nat) (b:Bool) (o:bK):bK:=match o.guard with
 | some (t',w)=>if t' = t then (if w = b then ⟨o.dst,b8 t b o.op,none,o.site⟩ else ⟨o.dst,.move (.c (.tup [])),none,o.site⟩) else ⟨o.dst,b8 t b o.op,some (t',w),o.site⟩
 | none=>⟨o.dst,b8 t b o.op,none,o.site⟩
def bY (t:Nat) (b:Bool):List bK->List bK
 | []=>[]
 | o :: l=>b9 t b o :: (if o.dst = some t then l else bY t b l)
theorem wW {C:Nat->List D->Option D} {site:Nat} {fr:Nat->V} {bl:Nat->Option aM} {t:Nat} {b:Bool} (h:fr t = .d (.bool b)) (op:jG):eH C site (cX fr) bl (b8 t b op) = eH C site (cX fr) bl op:=by
 cases op with
 | pick c x y =>
  cases c with
  | t t' =>
   simp only [b8]
   split
   ·rename_i e
    subst e
    simp only [eH,cX,h]
    cases b <;> rfl
   ·rfl
  | c v=>rfl
 | _=>rfl
theorem aBH {C:Nat->List D->Option D} {s:St} {t:Nat} {b:Bool} (h:s.get t = .d (.bool b)) (o:bK):vS C (b9 t b o) s = vS C o s:=by
 obtain ⟨d,op,g,st⟩:=o
 cases g with
 | some g =>
  obtain ⟨t',w⟩:=g
  simp only [b9]
  split
  ·rename_i e
   subst e
   split
   ·rename_i e
    subst e
    simp only [vS,bK.wants,h,wW h]
    cases w <;> rfl
   ·rename_i e
    simp only [vS,bK.wants,h,eH,cX]
    cases w <;> cases b <;> simp_all [vN]
  ·simp only [vS,bK.wants,wW h]
 | none=>simp only [b9,vS,bK.wants,wW h]
theorem BG {s:St} {d:Option Nat} {v:V} {wr:List (Nat × Option aM)} {t:Nat} (h:¬ d = some t):(s.put d v wr).get t = s.get t:=by
 cases d with
 | none=>rfl
 | some a =>
  show lk ((a,v) :: s.fr) .any t = lk s.fr .any t
  have:¬ t = a:=fun e=>h (by rw [e])
  simp [lk,this]
theorem aAx {C:Nat->List D->Option D} {o:bK} {s s' : St} {t:Nat} (h:¬ o.dst = some t) (e:vS C o s = some s'):s'.get t = s.get t:=by
 unfold vS at e
 split at e
 ·split at e
  ·cases e; exact BG h
  ·cases e
 ·cases e; exact BG h
 ·cases e
theorem HK {C:Nat->List D->Option D} {t:Nat} {b:Bool}:∀ (l:List bK) {s:St} (h:s.get t = .d (.bool b)),lJ C (bY t b l) s = lJ C l s
 | [],s,h=>rfl
 | o :: l,s,h=>by
  simp only [bY,lJ,aBH h]
  cases e:vS C o s with
  | none=>rfl
  | some s' =>
   simp only
   split
   ·rfl
   ·rename_i hd
    exact HK l (by rw [aAx hd e]; exact h)
noncomputable def HP (T:vW) (v:V) (t:Nat) (l:List bK) (s:St) (k:St->Option β):Option β:=match v with
 | .d (.bool b)=>if b = true then tN T (bY t true l) s k else tN T (bY t false l) s k
 | .tup []=>match l with
  | o :: r=>tN T r (s.put o.dst (.tup []) []) k
  | []=>none
 | _=>none
theorem WO {T:vW} (d:Option Nat) (op:jG) (t:Nat) (w:Bool) (st:Nat) (l:List bK) (fr:List (Nat × V)) (bl:List (Nat × Option aM)) (k:St->Option β) :
  tN T (⟨d,op,some (t,w),st⟩ :: l) ⟨fr,bl⟩ k = qR fr t fun v=>HP T v t (⟨d,op,some (t,w),st⟩ :: l) ⟨fr,bl⟩ k:=by
 show _ = HP T (lk fr .any t) t _ _ k
 generalize hv:lk fr .any t = v
 have bad:∀ (q:vN v w = .bad),tN T (⟨d,op,some (t,w),st⟩ :: l) ⟨fr,bl⟩ k = none:=by
  intro q
  unfold tN
  simp only [lJ,vS,bK.wants]
  rw [show (St.get ⟨fr,bl⟩ t) = v from hv,q]; rfl
 cases v with
 | d x =>
  cases x with
  | bool b =>
   simp only [HP]
   cases b with
   | true=>rw [if_pos rfl]; unfold tN; rw [HK (t:=t) (b:=true) (s:=⟨fr,bl⟩) _ hv]
   | false=>rw [if_neg (by decide)]; unfold tN; rw [HK (t:=t) (b:=false) (s:=⟨fr,bl⟩) _ hv]
  | _=>exact bad rfl
 | tup vs =>
  cases vs with
  | nil =>
   simp only [HP]
   unfold tN
   simp only [lJ,vS,bK.wants]
   rw [show (St.get ⟨fr,bl⟩ t) = _ from hv]
   rfl
  | cons x l=>exact bad rfl
 | _=>exact bad rfl
theorem aCM {T:vW} (b:Bool) (t:Nat) (l:List bK) (s:St) (k:St->Option β):HP T (.d (.bool b)) t l s k = if b = true then tN T (bY t true l) s k else tN T (bY t false l) s k:=rfl
theorem aEx {T:vW} (t d st:Nat) (op:jG) (g:Option (Nat × Bool)) (l:List bK) (fr:List (Nat × V)) (bl:List (Nat × Option aM)) (k:St->Option β):HP T (.tup []) t (⟨some d,op,g,st⟩ :: l) ⟨fr,bl⟩ k = tN T l ⟨(d,.tup []) :: fr,bl⟩ k:=rfl
theorem A7 {T:vW} {l l' : List bK} {s:St} {k:St->Option β} (h:l = l'):tN T l s k = tN T l' s k:=by rw [h]
section
variable {T:vW} {d:Nat} {fr:List (Nat × V)} {bl:List (Nat × Option aM)} {k:V->Option β} {kw:V->List (Nat × Option aM)->Option β}
def AR (r:FZ) (k:V->Option β) (kw:V->List (Nat × Option aM)->Option β):Option β:=match r with
 | none=>none
 | some (v,[])=>k v
 | some (v,p :: wr)=>kw v (p :: wr)
theorem PV (o:Option D):AR (FZ.v o) k kw = o.bind fun x=>k (.d x):=by cases o <;> rfl
theorem aEV (x:dG):uG T d (.move x) fr bl k kw = dX fr x k:=rfl
def jH (b:Option aM) (x:Option β):Option β:=match b with
 | none=>x
 | some _=>none
theorem aF1 (x:Option β):jH none x = x:=rfl
theorem aB8 (z:List V):uG T d (.alloc z) fr bl k kw = dF bl d fun b=>jH b (kw (.ptr d 0) [(d,some (.box z))]):=by
 unfold uG dF jH
 simp only [eH]
 cases lk bl none d <;> rfl
def BZ (v:V) (k:List V->Option β):Option β:=if v.known = true then k v.cells else none
theorem aEd (x:D) (k:List V->Option β):BZ (.d x) k = k [.d x]:=rfl
theorem XZ (cs:List V) (k:List V->Option β):BZ (.agg cs) k = k cs:=rfl
theorem T3 (ds:List D) (k:List V->Option β):BZ (oC ds) k = k (bQ ds):=rfl
theorem V3 (i o:Nat) (k:List V->Option β):BZ (.own i o) k = k [.own i o]:=rfl
theorem aIj (x:dG):uG T d (.box x) fr bl k kw = dF bl d fun b=>jH b (dX fr x fun v=>BZ v fun cs=>kw (.ptr d 0) [(d,some (.box cs))]):=by
 unfold uG dF jH dX BZ
 simp only [eH]
 cases lk bl none d with
 | none =>
  simp only
  by_cases h:(cX (lk fr .any) x).known = true
  ·rw [if_pos h,if_pos h]
  ·rw [if_neg h,if_neg h]
 | some b=>rfl
def GH (fr:List (Nat × V)):List dG->(List V->Option β)->Option β
 | [],k=>k []
 | x :: l,k=>dX fr x fun v=>GH fr l fun vs=>k (v :: vs)
theorem S0 (l:List dG) (k:List V->Option β):GH fr l k = k (l.map (cX (lk fr .any))):=by
 induction l generalizing k with
 | nil=>rfl
 | cons x l ih=>simp only [GH,dX,ih,List.map_cons]
theorem Z5 (k:List V->Option β):GH fr [] k = k []:=rfl
theorem WC (x:dG) (l:List dG) (k:List V->Option β):GH fr (x :: l) k = dX fr x fun v=>GH fr l fun vs=>k (v :: vs):=rfl
def FN (fr:List (Nat × V)):List (Nat × Nat × dG)->(List (Nat × Nat × V)->Option β)->Option β
 | [],k=>k []
 | (o,s,x) :: l,k=>dX fr x fun v=>FN fr l fun vs=>k ((o,s,v) :: vs)
theorem lC (op:jG):uG T d op fr bl k kw = AR (eH (call T) d (cX (lk fr .any)) (lk bl none) op) k kw:=by
 unfold uG AR
 cases eH (call T) d (cX (lk fr .any)) (lk bl none) op with
 | none=>rfl
 | some r=>obtain ⟨v,wr⟩:=r; cases wr <;> rfl
theorem EJ (r:FZ):AR r k kw = G2 r fun v wr=>match wr with | []=>k v | p :: w=>kw v (p :: w):=by
 cases r with
 | none=>rfl
 | some r=>obtain ⟨v,wr⟩:=r; cases wr <;> rfl
def DZ:List V->Nat->(V->Option β)->Option β
 | [],_,_=>none
 | c :: _,0,k=>k c
 | _ :: cs,n + 1,k=>DZ cs n k
theorem LU (cs:List V) (n:Nat) (k:V->Option β):DZ cs n k = cs[n]?.bind k:=by
 induction cs generalizing n with
 | nil=>rfl
 | cons c cs ih=>cases n with
  | zero=>rfl
  | succ n=>simp only [DZ,ih,List.getElem?_cons_succ]
theorem aHv (c:V) (cs:List V) (k:V->Option β):DZ (c :: cs) 0 k = k c:=rfl
theorem aFN (c:V) (cs:List V) (n:Nat) (k:V->Option β):DZ (c :: cs) (n + 1) k = DZ cs n k:=rfl
def iL (ds:List D) (n:Nat) (k:D->Option β):Option β:=ds[n]?.bind k
def wD (ds:List D) (off size:Nat) (k:List D->Option β):Option β:=if off + size <= ds.length then k ((ds.drop off).take size) else none
def JC (cs:List V) (off size:Nat) (k:List V->Option β):Option β:=if off + size <= cs.length then k ((cs.drop off).take size) else none
theorem aGn (ds:List D) (n:Nat) (k:V->Option β):DZ (bQ ds) n k = iL ds n fun x=>k (.d x):=by
 rw [LU]
 unfold bQ iL
 rw [List.getElem?_map]
 cases ds[n]? <;> rfl
theorem aAt (cs:List V) (n:Nat) (k:List V->Option β) (h:cs.length = n):JC cs 0 n k = k cs:=by
 subst h
 simp [JC]
theorem aGk (ds:List D) (off n:Nat) (k:List V->Option β):JC (bQ ds) off n k = wD ds off n fun l=>k (bQ l):=by
 unfold JC wD bQ
 simp only [List.length_map,List.map_take,List.map_drop]
def A6 (size:Nat) (isAgg:Bool) (off:Nat) (b:Option aM) (k:V->Option β):Option β:=match b with
 | some (.box cs)=>if isAgg = true then JC cs off size fun l=>k (.agg l) else DZ cs off k
 | some (.fbox row)=>if isAgg = true then wD row off size fun l=>k (oC l) else iL row off fun x=>k (.d x)
 | _=>none
def KV (size:Nat) (isAgg:Bool) (ver i off:Nat) (b:Option aM) (k:V->Option β):Option β:=match b with
 | some (.rows v e sz rows)=>if ver = v then rows[i]?.bind fun row=>(if isAgg = true then wD row off size fun l=>k (oC l) else iL row off fun x=>k (.d x)) else none
 | _=>none
def xJ (size:Nat) (isAgg:Bool) (x:V) (bl:List (Nat × Option aM)) (k:V->Option β):Option β:=match x with
 | .ptr id off=>dF bl id fun b=>A6 size isAgg off b k
 | .d (.ptr row off)=>if isAgg = true then wD row off size fun l=>k (oC l) else iL row off fun x=>k (.d x)
 | .orow id ver i off=>dF bl id fun b=>KV size isAgg ver i off b k
 | _=>none
theorem UN (size:Nat) (isAgg:Bool) (x:dG):uG T d (.load size isAgg x) fr bl k kw = dX fr x fun v=>xJ size isAgg v bl k:=by
 rw [lC,DA]
 unfold dX
 generalize cX (lk fr .any) x = v
 have hD:∀ row off,AR (TF size isAgg off row) k kw = if isAgg = true then wD row off size fun l=>k (oC l) else iL row off fun x=>k (.d x):=by
  intro row off
  unfold TF
  cases isAgg with
  | true=>simp only [if_true,wD]; split <;> rfl
  | false=>simp only [Bool.false_eq_true,if_false,iL]; cases row[off]? <;> rfl
 cases v with
 | ptr id off =>
  rw [aAX]
  simp only [xJ,dF]
  generalize lk bl none id = b
  cases b with
  | none=>rfl
  | some b=>cases b with
   | box cs =>
    cases isAgg with
    | true=>simp only [aHS,A6,if_true,JC]; split <;> rfl
    | false=>simp only [aIv,A6,Bool.false_eq_true,if_false,LU]; cases cs[off]? <;> rfl
   | fbox row=>exact hD row off
   | _=>rfl
 | d x=>cases x with
  | ptr row off=>exact hD row off
  | _=>rfl
 | orow id ver i off =>
  rw [aH0]
  simp only [xJ,dF]
  generalize lk bl none id = b
  cases b with
  | none=>rfl
  | some b=>cases b with
   | rows v e sz rows =>
    simp only [aCl,KV]
    split
    ·cases rows[i]? with
     | none=>rfl
     | some row=>exact hD row off
    ·rfl
   | _=>rfl
 | _=>rfl
theorem aAJ (size:Nat) (isAgg:Bool) (id off:Nat):xJ size isAgg (.ptr id off) bl k = dF bl id fun b=>A6 size isAgg off b k:=rfl
theorem aEX (size:Nat) (row:List D) (off:Nat):xJ size true (.d (.ptr row off)) bl k = wD row off size fun l=>k (oC l):=rfl
theorem aFv (size:Nat) (row:List D) (off:Nat):xJ size false (.d (.ptr row off)) bl k = iL row off fun x=>k (.d x):=rfl
theorem aHp (size:Nat) (isAgg:Bool) (id ver i off:Nat):xJ size isAgg (.orow id ver i off) bl k = dF bl id fun b=>KV size isAgg ver i off b k:=rfl
theorem aA8 (size off:Nat) (row:List D):A6 size true off (some (.fbox row)) k = wD row off size fun l=>k (oC l):=rfl
theorem aBh (size off:Nat) (row:List D):A6 size false off (some (.fbox row)) k = iL row off fun x=>k (.d x):=rfl
theorem aFl (size off:Nat) (cs:List V):A6 size false off (some (.box cs)) k = DZ cs off k:=rfl
theorem aD5 (size off:Nat) (c:V) (cs:List V):A6 size true off (some (.box (c :: cs))) k = JC (c :: cs) off size fun l=>k (.agg l):=rfl
theorem aDC (size off:Nat) (ds:List D):A6 size true off (some (.box (bQ ds))) k = wD ds off size fun l=>k (oC l):=by
 show JC (bQ ds) off size (fun l=>k (.agg l)) = _
 rw [aGk]; rfl
theorem S1 {α:Type} (size:Nat) (isAgg:Bool) (v i off e sz:Nat) (c:α->List D) (xs:List α):KV size isAgg v i off (some (.rows v e sz (cM c xs))) k = xs[i]?.bind fun x=>xJ size isAgg (.d (.ptr (c x) off)) [] k:=by
 simp only [KV,if_true,cM,List.getElem?_map]
 cases xs[i]? <;> rfl
def E7:List V->Nat->V->(List V->Option β)->Option β
 | [],_,_,_=>none
 | _ :: cs,0,v,k=>k (v :: cs)
 | c :: cs,n + 1,v,k=>E7 cs n v fun l=>k (c :: l)
theorem aEt (cs:List V) (n:Nat) (v:V) (k:List V->Option β):E7 cs n v k = if n + 1 <= cs.length then k (jY cs n [v]) else none:=by
 induction cs generalizing n k with
 | nil=>rfl
 | cons c cs ih=>cases n with
  | zero=>rw [if_pos (by simp)]; cases cs <;> rfl
  | succ n =>
   simp only [E7,ih,jY,List.length_cons]
   by_cases h:n + 1 <= cs.length
   ·rw [if_pos h,if_pos (by omega)]
   ·rw [if_neg h,if_neg (by omega)]
theorem aF9 (c:V) (cs:List V) (v:V) (k:List V->Option β):E7 (c :: cs) 0 v k = k (v :: cs):=rfl
theorem aH2 (c:V) (cs:List V) (n:Nat) (v:V) (k:List V->Option β):E7 (c :: cs) (n + 1) v k = E7 cs n v fun l=>k (c :: l):=rfl
def u4 (cs:List V) (off:Nat) (ws:List V) (k:List V->Option β):Option β:=if off + ws.length <= cs.length then k (jY cs off ws) else none
theorem O2 {α:Type} (l:List α) (n:Nat):jY l n [] = l:=by cases l <;> rfl
theorem SI (c:V) (cs:List V) (off:Nat) (ws:List V) (k:List V->Option β) (hw:ws ≠ []):u4 (c :: cs) (off + 1) ws k = u4 cs off ws fun l=>k (c :: l):=by
 unfold u4
 cases ws with
 | nil=>exact absurd rfl hw
 | cons w ws =>
  simp only [List.length_cons,jY]
  by_cases h:off + (ws.length + 1) <= cs.length
  ·rw [if_pos h,if_pos (by omega)]
  ·rw [if_neg h,if_neg (by omega)]
theorem WT (c:V) (cs:List V) (w:V) (ws:List V) (k:List V->Option β):u4 (c :: cs) 0 (w :: ws) k = u4 cs 0 ws fun l=>k (w :: l):=by
 unfold u4
 simp only [List.length_cons,jY]
 by_cases h:0 + ws.length <= cs.length
 ·rw [if_pos h,if_pos (by omega)]
 ·rw [if_neg h,if_neg (by omega)]
theorem XS (cs:List V) (k:List V->Option β):u4 cs 0 [] k = k cs:=by simp [u4,O2]
def oR (size off id:Nat) (v:V) (b:Option aM) (kw:V->List (Nat × Option aM)->Option β):Option β:=match b with
 | some (.box cs)=>if v.cells.length = size ∧ off + size <= cs.length ∧ v.known = true then kw .any [(id,some (.box (jY cs off v.cells)))] else none
 | _=>none
def GG (size ver i off id:Nat) (v:V) (bl:List (Nat × Option aM)) (b:Option aM) (kw:V->List (Nat × Option aM)->Option β):Option β:=G2 (KK size ver i off id (sW (lk bl none) v) (bB (mJ (lk bl none)) v.cells) b) kw
def LD (size:Nat) (p v:V) (bl:List (Nat × Option aM)) (kw:V->List (Nat × Option aM)->Option β):Option β:=match p with
 | .ptr id off=>dF bl id fun b=>oR size off id v b kw
 | .orow id ver i off=>dF bl id fun b=>GG size ver i off id v bl b kw
 | _=>none
theorem ZW (size:Nat) (x v:dG):uG T d (.store size x v) fr bl k kw = dX fr x fun p=>dX fr v fun w=>LD size p w bl kw:=by
 rw [lC,aAY]
 unfold dX
 generalize cX (lk fr .any) x = p
 generalize cX (lk fr .any) v = w
 cases p with
 | ptr id off =>
  rw [aEk]
  simp only [LD,dF]
  generalize lk bl none id = b
  cases b with
  | none=>rfl
  | some b=>cases b with
   | box cs =>
    simp only [VT,oR]
    by_cases h:w.cells.length = size ∧ off + size <= cs.length ∧ w.known = true
    ·rw [if_pos h,if_pos h]; rfl
    ·rw [if_neg h,if_neg h]; rfl
   | _=>rfl
 | orow id ver i off =>
  rw [aCf]
  simp only [LD,dF,GG]
  rw [EJ]
  generalize lk bl none id = b
  cases b with
  | none=>rfl
  | some b=>cases b with
   | rows v e sz rows =>
    simp only [KK]
    by_cases h:ver = v
    ·rw [if_pos h]
     cases rows[i]? with
     | none=>rfl
     | some row =>
      cases bB (mJ (lk bl none)) w.cells with
      | none=>rfl
      | some ds =>
       simp only
       split <;> rfl
    ·rw [if_neg h]; rfl
   | _=>rfl
 | _=>rfl
theorem aC2 (size id off:Nat) (v:V):LD size (.ptr id off) v bl kw = dF bl id fun b=>oR size off id v b kw:=rfl
theorem aE3 (size id ver i off:Nat) (v:V):LD size (.orow id ver i off) v bl kw = dF bl id fun b=>GG size ver i off id v bl b kw:=rfl
theorem HA (off id:Nat) (w c:V) (cs:List V) (hw:w.one = true) (hk:w.known = true):oR 1 off id w (some (.box (c :: cs))) kw = E7 (c :: cs) off w fun l=>kw .any [(id,some (.box l))]:=by
 have hc:w.cells = [w]:=by cases w <;> first | rfl | cases hw
 rw [aEt]
 simp only [oR,hc,hk]
 by_cases h:off + 1 <= (c :: cs).length
 ·rw [if_pos h,if_pos ⟨rfl,h,trivial⟩]
 ·rw [if_neg h,if_neg (fun q=>h q.2.1)]
theorem aBJ (off id:Nat) (x:D) (c:V) (cs:List V):oR 1 off id (.d x) (some (.box (c :: cs))) kw = E7 (c :: cs) off (.d x) fun l=>kw .any [(id,some (.box l))]:=HA off id _ c cs rfl rfl
theorem SK (off id i v:Nat) (c:V) (cs:List V):oR 1 off id (.own i v) (some (.box (c :: cs))) kw = E7 (c :: cs) off (.own i v) fun l=>kw .any [(id,some (.box l))]:=HA off id _ c cs rfl rfl
def GQ (cs:List V) (n:Nat) (x:Option β):Option β:=if cs.length = n then x else none
theorem aFH (x:Option β):GQ [] 0 x = x:=rfl
theorem aH9 (c:V) (cs:List V) (n:Nat) (x:Option β):GQ (c :: cs) (n + 1) x = GQ cs n x:=by
 unfold GQ
 simp only [List.length_cons]
 by_cases h:cs.length = n
 ·rw [if_pos h,if_pos (by omega)]
 ·rw [if_neg h,if_neg (by omega)]
theorem SM (size off id:Nat) (ws:List V) (c:V) (cs:List V):oR size off id (.agg ws) (some (.box (c :: cs))) kw = GQ ws size (u4 (c :: cs) off ws fun l=>kw .any [(id,some (.box l))]):=by
 unfold GQ u4
 show (if ws.length = size ∧ off + size <= (c :: cs).length ∧ V.known (.agg ws) = true then kw .any [(id,some (.box (jY (c :: cs) off ws)))] else none) = _
 by_cases h:ws.length = size
 ·subst h
  rw [if_pos rfl]
  by_cases h:off + ws.length <= (c :: cs).length
  ·rw [if_pos h,if_pos ⟨rfl,h,rfl⟩]
  ·rw [if_neg h,if_neg (fun q=>h q.2.1)]
 ·rw [if_neg h,if_neg (fun q=>h q.1)]
theorem N8 {α:Type}:∀ (l m:List α),l.length = m.length->jY l 0 m = m
 | [],[],_=>rfl
 | _ :: l,x :: m,h=>by
  simp only [jY]
  rw [N8 l m (by simpa using h)]
 | [],_ :: _,h=>by simp at h
 | _ :: _,[],h=>by simp at h
theorem pD (n id:Nat) (ds:List D) (hd:ds.length = n) (cs:List V) (hc:cs.length = n):oR n 0 id (oC ds) (some (.box cs)) kw = kw .any [(id,some (.box (bQ ds)))]:=by
 have e:(bQ ds).length = n:=by rw [← hd]; simp [bQ]
 show (if (bQ ds).length = n ∧ 0 + n <= cs.length ∧ V.known (oC ds) = true then kw .any [(id,some (.box (jY cs 0 (bQ ds))))] else none) = _
 rw [if_pos ⟨e,by omega,rfl⟩,N8 _ _ (by rw [hc,e])]
def aKi (v:V) (bl:List (Nat × Option aM)) (k:V->Option β):Option β:=match v with
 | .ptr id off=>k (.ptr id off)
 | .d (.ptr row off)=>k (.d (.ptr row off))
 | .orow id ver i off=>dF bl id fun b=>match b with
  | some (.rows v _ _ _)=>if ver = v then k (.orow id ver i off) else none
  | _=>none
 | _=>none
theorem Q8 (x:dG):uG T d (.nilCheck x) fr bl k kw = dX fr x fun v=>aKi v bl k:=by
 unfold uG dX
 simp only [eH]
 generalize cX (lk fr .any) x = v
 cases v with
 | d x=>cases x <;> rfl
 | orow id ver i off =>
  simp only [aKi,dF]
  generalize lk bl none id = b
  cases b with
  | none=>rfl
  | some b=>cases b with
   | rows v e s rows=>simp only; by_cases h:ver = v <;> simp [h]
   | _=>rfl
 | _=>rfl
theorem aJ3 (id off:Nat):aKi (.ptr id off) bl k = k (.ptr id off):=rfl
def YL (id ver i off:Nat) (b:Option aM) (k:V->Option β):Option β:=match b with
 | some (.rows v _ _ _)=>if ver = v then k (.orow id ver i off) else none
 | _=>none
theorem aHm (id ver i off e s:Nat) (rows:List (List D)):YL id ver i off (some (.rows ver e s rows)) k = k (.orow id ver i off):=if_pos rfl
def faK (off:Nat) (v:V) (bl:List (Nat × Option aM)) (k:V->Option β):Option β:=match v with
 | .ptr id o=>k (.ptr id (o + off))
 | .d (.ptr row o)=>k (.d (.ptr row (o + off)))
 | .orow id ver i o=>dF bl id fun b=>YL id ver i (o + off) b k
 | _=>none
theorem NI (off:Nat) (x:dG):uG T d (.fieldAddr off x) fr bl k kw = dX fr x fun v=>faK off v bl k:=by
 unfold uG dX
 simp only [eH]
 generalize cX (lk fr .any) x = v
 cases v with
 | d x=>cases x <;> rfl
 | orow id ver i o =>
  simp only [faK,dF]
  generalize lk bl none id = b
  cases b with
  | none=>rfl
  | some b=>cases b with
   | rows v e s rows=>simp only [YL]; by_cases h:ver = v <;> simp [h]
   | _=>rfl
 | _=>rfl
theorem aLD (off id o:Nat):faK off (.ptr id o) bl k = k (.ptr id (o + off)):=rfl
theorem aLv (off:Nat) (row:List D) (o:Nat):faK off (.d (.ptr row o)) bl k = k (.d (.ptr row (o + off))):=rfl
theorem aKO (off id ver i o:Nat):faK off (.orow id ver i o) bl k = dF bl id fun b=>YL id ver i (o + off) b k:=rfl
def BM (c:Nat) (op:BinOp) (a b:V) (k:V->Option β):Option β:=(CD c op a b).bind fun x=>k (.d x)
theorem aHt (c:Nat) (op:BinOp) (x y:dG):uG T d (.bin c op x y) fr bl k kw = dX fr x fun a=>dX fr y fun b=>BM c op a b k:=by
 rw [lC]
 exact PV _
section
variable (kd:IntKind) (x y:Int)
theorem aDb:BM 0 .add (.d (.int kd x)) (.d (.int kd y)) k = k (.d (.int kd (IntKind.wrap kd (x + y)))):=by simp [BM,CD,tG]
theorem aEM:BM 0 .sub (.d (.int kd x)) (.d (.int kd y)) k = k (.d (.int kd (IntKind.wrap kd (x - y)))):=by simp [BM,CD,tG]
theorem aEq:BM 0 .rem (.d (.int kd x)) (.d (.int kd y)) k = if y = 0 then none else k (.d (.int kd (x.tmod y))):=by
 simp only [BM,CD,tG,if_true]; split <;> rfl
theorem aEE:BM 0 .eql (.d (.int kd x)) (.d (.int kd y)) k = k (.d (.bool (x == y))):=by simp [BM,CD,tG]
theorem aCr:BM 0 .neq (.d (.int kd x)) (.d (.int kd y)) k = k (.d (.bool (x != y))):=by simp [BM,CD,tG]
theorem aDj:BM 0 .lss (.d (.int kd x)) (.d (.int kd y)) k = k (.d (.bool (decide (x < y)))):=by simp [BM,CD,tG]
theorem aCm:BM 0 .leq (.d (.int kd x)) (.d (.int kd y)) k = k (.d (.bool (decide (x <= y)))):=by simp [BM,CD,tG]
theorem aEA:BM 0 .gtr (.d (.int kd x)) (.d (.int kd y)) k = k (.d (.bool (decide (x > y)))):=by simp [BM,CD,tG]
theorem aEv:BM 0 .geq (.d (.int kd x)) (.d (.int kd y)) k = k (.d (.bool (decide (x ≥ y)))):=by simp [BM,CD,tG]
end
section
variable (x y:ByteArray)
end
def W0 (o:Option D) (k:V->Option β):Option β:=o.bind fun x=>k (.d x)
theorem AX {o o' : Option D} {k:V->Option β} (h:o = o'):W0 o k = W0 o' k:=by rw [h]
theorem aHB (ks:List Nat) (neg:Bool) (x y:dG):uG T d (.eqS ks neg x y) fr bl k kw = dX fr x fun a=>dX fr y fun b=>W0 (eqV ks neg a b) k:=by
 rw [lC]
 exact PV _
def xR:List Nat->List V->List V->(Bool->Option β)->Option β:=fun ks xs ys k=>match gT ks xs ys with
 | some b=>k b
 | none=>none
def aEr (ks:List Nat) (neg:Bool) (a b:V) (k:V->Option β):Option β:=match a,b with
 | .agg xs,.agg ys=>xR ks xs ys fun b=>k (.d (.bool (if neg then !b else b)))
 | _,_=>none
theorem aHJ (ks:List Nat) (neg:Bool) (x y:dG):uG T d (.eqS ks neg x y) fr bl k kw = dX fr x fun a=>dX fr y fun b=>aEr ks neg a b k:=by
 rw [aHB]
 unfold dX
 generalize cX (lk fr .any) x = a
 generalize cX (lk fr .any) y = b
 cases a with
 | agg xs=>cases b with
  | agg ys =>
   simp only [eqV,aEr,xR,W0]
   cases gT ks xs ys <;> rfl
  | _=>rfl
 | _=>cases b <;> rfl
section
variable {k:V->Option β}
theorem aEQ (ks:List Nat) (xs:List V) (ys:List D):aEr ks true (.agg xs) (oC ys) k = xR ks xs (bQ ys) fun b=>k (.d (.bool !b)):=rfl
theorem aDT (ks:List Nat) (xs ys:List D):aEr ks true (oC xs) (oC ys) k = xR ks (bQ xs) (bQ ys) fun b=>k (.d (.bool !b)):=rfl
theorem aFz (ks:List Nat) (xs ys:List D):aEr ks false (oC xs) (oC ys) k = xR ks (bQ xs) (bQ ys) fun b=>k (.d (.bool b)):=rfl
end
section
variable {k:Bool->Option β}
theorem aHo (kd:IntKind) (x y:Int):xR [0] [.d (.int kd x)] [.d (.int kd y)] k = k (x == y):=by simp [xR,gT,yV]
theorem aJN (kd:IntKind) (x y:Int) (c:Nat) (ks:List Nat) (xs ys:List V):xR (0 :: c :: ks) (.d (.int kd x) :: xs) (.d (.int kd y) :: ys) k = xR (c :: ks) xs ys fun b=>k ((x == y) && b):=by
 simp only [xR,gT,yV,if_true]
 cases gT (c :: ks) xs ys <;> rfl
end
def aDF (kd:IntKind) (x:Int):List V->(V->Option β)->Option β:=fun l k=>W0 (X3 kd x l) k
def aIF (l:List V) (k:V->Option β):Option β:=W0 (aHD l) k
theorem aFD (l:List dG):uG T d (.min l) fr bl k kw = GH fr l fun vs=>aIF vs k:=by
 rw [lC,S0]
 exact PV _
section
variable {k:V->Option β}
theorem aGU (kd:IntKind) (x:Int) (l:List V):aIF (.d (.int kd x) :: l) k = aDF kd x l k:=rfl
theorem aD9 (kd:IntKind) (x:Int):aDF kd x [] k = k (.d (.int kd x)):=rfl
theorem ZV (kd:IntKind) (x y:Int) (l:List V):aDF kd x (.d (.int kd y) :: l) k = aDF kd (if y < x then y else x) l k:=by simp [aDF,X3]
end
def unK (op:UnOp) (v:V) (k:V->Option β):Option β:=W0 (unV op v) k
theorem aKh (op:UnOp) (x:dG):uG T d (.un op x) fr bl k kw = dX fr x fun a=>unK op a k:=by
 rw [lC]
 exact PV _
theorem aFS (b:Bool):unK .not (.d (.bool b)) k = k (.d (.bool !b)):=rfl
theorem aHT (kd:IntKind) (n:Int):unK .neg (.d (.int kd n)) k = k (.d (.int kd (IntKind.wrap kd (0 - n)))):=rfl
def aIy (kd:IntKind) (v:V) (k:V->Option β):Option β:=match v with
 | .d (.int _ n)=>k (.d (.int kd (IntKind.wrap kd n)))
 | _=>none
theorem aCB (kd:IntKind) (x:dG):uG T d (.conv kd x) fr bl k kw = dX fr x fun a=>aIy kd a k:=by
 unfold uG dX
 simp only [eH]
 generalize cX (lk fr .any) x = v
 cases v with
 | d x=>cases x <;> rfl
 | _=>rfl
theorem aGM (kd kd' : IntKind) (n:Int):aIy kd (.d (.int kd' n)) k = k (.d (.int kd (IntKind.wrap kd n))):=rfl
def E6 (v:V) (bl:List (Nat × Option aM)) (k:List (List D)->Option β):Option β:=(kP (lk bl none) v).bind k
def HH (ver:Nat) (b:Option aM) (k:List (List D)->Option β):Option β:=(aIB ver b).bind k
theorem aCE (rows:List (List D)) (k:List (List D)->Option β):E6 (.d (.sl rows)) bl k = k rows:=rfl
theorem aBK (k:List (List D)->Option β):E6 .nil bl k = k []:=rfl
theorem PO (id ver:Nat) (k:List (List D)->Option β):E6 (.own id ver) bl k = dF bl id fun b=>HH ver b k:=by
 unfold E6 dF HH
 simp only [kP]
 generalize lk bl none id = b
 cases b with
 | none=>rfl
 | some b=>cases b <;> rfl
theorem IX (v e s:Nat) (rows:List (List D)) (k:List (List D)->Option β):HH v (some (.rows v e s rows)) k = k rows:=by simp [HH,aIB]
theorem aGP (x:dG):uG T d (.len x) fr bl k kw = dX fr x fun a=>E6 a bl fun rows=>k (.d (.int .i64 rows.length)):=by
 unfold uG dX E6
 simp only [eH]
 cases kP (lk bl none) (cX (lk fr .any) x) <;> rfl
def tZ (ds:List D) (n:Nat) (x:Option β):Option β:=if ds.length = n then x else none
def aDy (size:Nat) (x i:V) (bl:List (Nat × Option aM)) (k:V->Option β):Option β:=AR (QK size x i (lk bl none)) k fun _ _=>none
theorem Z9 {size:Nat} {x i:V} {b:Nat->Option aM} {kw' : V->List (Nat × Option aM)->Option β}:AR (QK size x i b) k kw = AR (QK size x i b) k kw':=by
 have:∀ r,QK size x i b = some r->r.2 = []:=by
  intro r
  unfold QK
  intro e
  repeat' split at e
  all_goals first | cases e; rfl | cases e
 cases h:QK size x i b with
 | none=>rfl
 | some r=>obtain ⟨v,wr⟩:=r; have:=this _ h; dsimp only at this; subst this; rfl
theorem NV (size:Nat) (x i:dG):uG T d (.indexAddr size x i) fr bl k kw = dX fr x fun a=>dX fr i fun b=>aDy size a b bl k:=by
 rw [lC,NB]
 unfold dX aDy
 exact Z9
theorem aG7 {α:Type} (size:Nat) (c:α->List D) (xs:List α) (kd:IntKind) (n:Int):aDy size (.d (.sl (cM c xs))) (.d (.int kd n)) bl k = (at? xs n).bind fun x=>tZ (c x) size (k (.d (.ptr (c x) 0))):=by
 unfold aDy
 rw [EJ,aIh]
 rfl
def aEj (size id ver:Nat) (n:Int) (b:Option aM) (k:V->Option β):Option β:=AR (aKm size id ver n b) k fun _ _=>none
theorem aDW (size id ver:Nat) (kd:IntKind) (n:Int):aDy size (.own id ver) (.d (.int kd n)) bl k = dF bl id fun b=>aEj size id ver n b k:=rfl
theorem WB {α:Type} (size id v e:Nat) (n:Int) (c:α->List D) (xs:List α):aEj size id v n (some (.rows v e size (cM c xs))) k = if 0 <= n ∧ n.toNat < xs.length then k (.orow id v n.toNat 0) else none:=by
 unfold aEj
 rw [EJ,aBg,if_pos rfl,if_pos rfl,aL]
def aG3 (fr:List (Nat × V)) (o:Option dG) (k:Option V->Option β):Option β:=match o with
 | none=>k none
 | some x=>dX fr x fun v=>k (some v)
theorem aJX (k:Option V->Option β):aG3 fr none k = k none:=rfl
theorem aJW (x:dG) (k:Option V->Option β):aG3 fr (some x) k = dX fr x fun v=>k (some v):=rfl
def L4 (size:Nat) (x:V) (lo hi:Option V) (bl:List (Nat × Option aM)) (k:V->Option β) (kw:V->List (Nat × Option aM)->Option β):Option β:=AR (BO (lk bl none) size x lo hi) k kw
theorem aAD (size:Nat) (x:dG) (lo hi:Option dG):uG T d (.slice size x lo hi) fr bl k kw = dX fr x fun a=>aG3 fr lo fun l=>aG3 fr hi fun h=>L4 size a l h bl k kw:=by
 rw [lC,aBG]
 cases lo <;> cases hi <;> rfl
section
variable {α:Type} (size:Nat) (c:α->List D) (xs:List α) (hs:sized size (cM c xs) = true)
include hs
theorem O0 {lo hi:Option V} {l h:Int} (hl:HT lo 0 = some l) (hh:HT hi (xs.length:Int) = some h):L4 size (.d (.sl (cM c xs))) lo hi bl k kw = if qC xs.length l h then k (.d (.sl (cM c (gX xs l h)))) else none:=by
 unfold L4
 rw [EJ,aBL _ size c xs lo hi l h hl hh hs]
theorem Z1 (kd:IntKind) (l:Int):L4 size (.d (.sl (cM c xs))) (some (.d (.int kd l))) none bl k kw = if qC xs.length l (xs.length:Int) then k (.d (.sl (cM c (gX xs l (xs.length:Int))))) else none:=O0 size c xs hs rfl rfl
theorem aBy (kd:IntKind) (h:Int):L4 size (.d (.sl (cM c xs))) none (some (.d (.int kd h))) bl k kw = if qC xs.length 0 h then k (.d (.sl (cM c (gX xs 0 h)))) else none:=O0 size c xs hs rfl rfl
end
def K0 (e size bytes d:Nat) (x y:V) (bl:List (Nat × Option aM)) (kw:V->List (Nat × Option aM)->Option β):Option β:=E6 y bl fun new =>
 if sized size new = true then
   match x with
   | .nil=>dF bl d fun b=>jH b (if new.length * bytes <= 140737488355328 then kw (.own d 0) [(d,some (.rows 0 e size new))] else none)
   | .own id ver=>dF bl id fun b=>match b with
    | some (.rows v e' size' rows)=>if ver = v ∧ e' = e ∧ size' = size ∧ (rows.length + new.length) * bytes <= 140737488355328 then kw (.own id (ver + 1)) [(id,some (.rows (ver + 1) e size (rows ++ new)))] else none
    | _=>none
   | _=>none
   else none
theorem YC (e size bytes:Nat) (x y:dG):uG T d (.append e size bytes x y) fr bl k kw = dX fr x fun a=>dX fr y fun b=>K0 e size bytes d a b bl kw:=by
 unfold uG dX K0 E6 dF jH
 simp only [eH]
 generalize cX (lk fr .any) x = v
 cases kP (lk bl none) (cX (lk fr .any) y) with
 | none=>rfl
 | some new =>
  simp only [Option.bind_some]
  by_cases hs:sized size new = true
  ·rw [if_pos hs,if_pos hs]
   cases v with
   | nil =>
    simp only
    cases lk bl none d with
    | none =>
     simp only
     by_cases h:new.length * bytes <= 140737488355328
     ·rw [if_pos h,if_pos h]
     ·rw [if_neg h,if_neg h]
    | some b=>rfl
   | own id ver =>
    simp only
    generalize lk bl none id = b
    cases b with
    | none=>rfl
    | some b=>cases b with
     | rows v e' size' rows =>
      simp only
      by_cases h:ver = v ∧ e' = e ∧ size' = size ∧ (rows.length + new.length) * bytes <= 140737488355328
      ·rw [if_pos h,if_pos h]
      ·rw [if_neg h,if_neg h]
     | _=>rfl
   | _=>rfl
  ·rw [if_neg hs,if_neg hs]
def O1 {α:Type} (e size bytes d:Nat) (x:V) (c:α->List D) (ys:List α) (bl:List (Nat × Option aM)) (kw:V->List (Nat × Option aM)->Option β):Option β:=match x with
   | .nil=>dF bl d fun b=>jH b (if ys.length * bytes <= 140737488355328 then kw (.own d 0) [(d,some (.rows 0 e size (cM c ys)))] else none)
   | .own id ver=>dF bl id fun b=>match b with
    | some (.rows v e' size' rows)=>if ver = v ∧ e' = e ∧ size' = size ∧ (rows.length + ys.length) * bytes <= 140737488355328 then kw (.own id (ver + 1)) [(id,some (.rows (ver + 1) e size (rows ++ cM c ys)))] else none
    | _=>none
   | _=>none
theorem PB {α:Type} (e size bytes d:Nat) (x y:V) (c:α->List D) (ys:List α) (hy:∀ k' : List (List D)->Option β,E6 y bl k' = k' (cM c ys)) (hs:sized size (cM c ys) = true):K0 e size bytes d x y bl kw = O1 e size bytes d x c ys bl kw:=by
 unfold K0 O1
 rw [hy,if_pos hs,aL]
theorem ZO {α:Type} (e size bytes d:Nat) (x:V) (c:α->List D) (ys:List α) (hs:sized size (cM c ys) = true):K0 e size bytes d x (.d (.sl (cM c ys))) bl kw = O1 e size bytes d x c ys bl kw:=PB e size bytes d x _ c ys (fun _=>rfl) hs
def aFs (e size bytes d:Nat) (x:V) (ver:Nat) (b:Option aM) (bl:List (Nat × Option aM)) (kw:V->List (Nat × Option aM)->Option β):Option β:=HH ver b fun new=>K0 e size bytes d x (.d (.sl new)) bl kw
theorem aFp (e size bytes d id ver:Nat) (x:V):K0 e size bytes d x (.own id ver) bl kw = dF bl id fun b=>aFs e size bytes d x ver b bl kw:=by
 show K0 e size bytes d x (.own id ver) bl kw = HH ver (lk bl none id) fun new=>K0 e size bytes d x (.d (.sl new)) bl kw
 unfold K0
 rw [PO]
 rfl
theorem WV {α:Type} (e size bytes d v e' s' : Nat) (x:V) (c:α->List D) (ys:List α) (hs:sized size (cM c ys) = true):aFs e size bytes d x v (some (.rows v e' s' (cM c ys))) bl kw = O1 e size bytes d x c ys bl kw:=by
 unfold aFs
 rw [IX,ZO _ _ _ _ _ _ _ hs]
def aDJ {α:Type} (e size bytes id ver:Nat) (c:α->List D) (ys:List α) (b:Option aM) (kw:V->List (Nat × Option aM)->Option β):Option β:=match b with
    | some (.rows v e' size' rows)=>if ver = v ∧ e' = e ∧ size' = size ∧ (rows.length + ys.length) * bytes <= 140737488355328 then kw (.own id (ver + 1)) [(id,some (.rows (ver + 1) e size (rows ++ cM c ys)))] else none
    | _=>none
theorem aAH {α:Type} (e size bytes d id ver:Nat) (c:α->List D) (ys:List α):O1 e size bytes d (.own id ver) c ys bl kw = dF bl id fun b=>aDJ e size bytes id ver c ys b kw:=rfl
theorem VV {α:Type} (e size bytes id v:Nat) (c:α->List D) (xs ys:List α):aDJ e size bytes id v c ys (some (.rows v e size (cM c xs))) kw = if (xs.length + ys.length) * bytes <= 140737488355328 then kw (.own id (v + 1)) [(id,some (.rows (v + 1) e size (cM c (xs ++ ys))))] else none:=by
 simp only [aDJ,true_and,aL,aBI]
def ON (e:Nat) (rows:List (List D)) (k:List (List D)->Option β):Option β:=k rows
def QF (v:V) (bl:List (Nat × Option aM)) (k:List D->List (Nat × Option aM)->Option β):Option β:=match bB (mJ (lk bl none)) v.cells with
 | some row=>k row (sW (lk bl none) v)
 | none=>none
end
section
end
end
end Vm
end Go.Proofs.Ytiimibimkpimbaa
