/- The small machine. -/
import Derived.Test.YtoefdnkjcfoccaaDoorVmA
import Derived.Laws.AppendOwnNone
import Derived.Lib.LazyBuf
import Derived.Laws.Pointers
import Derived.ArgAppend
import Derived.Lib.ConvBytes
import Derived.DeepKeys3
namespace Go.Proofs.YtoefdnkjcfoccaaDoor
section
namespace Vm
open Go.RowKit
section
variable {h:Hp} {hd:Nat->Value} {bl:Nat->Option aO} {v:Value}
theorem mC {k:IntKind} {n:Int} (r:R3 h hd bl v (.d (.int k n))):v = .int k n:=by cases (show a6 h v _ from r.2); rfl
theorem oA {b:Bool} (r:R3 h hd bl v (.d (.bool b))):v = .bool b:=by cases (show a6 h v _ from r.2); rfl
theorem EF {s:ByteArray} (r:R3 h hd bl v (.d (.str s))):v = .string s ∧ s.size <= maxLen:=by cases (show a6 h v _ from r.2); exact ⟨rfl,by assumption⟩
theorem O3 {id off:Nat} (r:R3 h hd bl v (.ptr id off)):(∃ b,bl id = some b ∧ b.isBox = true) ∧ ∃ g,hd id = .pointer (some ⟨g,0,none⟩) ∧ v = .pointer (some ⟨g,off,none⟩):=r
theorem NK {cs:List V} (r:R3 h hd bl v (.agg cs)):∃ arr,v = .agg arr ∧ arr.size = cs.length ∧ ∀ j x,cs[j]? = some x->R1 h hd bl (arr.getD j undef) x ∧ (arr.getD j undef).oneCell' = true:=r
end
theorem PL (b off n:Nat):(⟨b,off,none⟩ : Addr).add n = ⟨b,off + n,none⟩:=ċ b off n
section
variable {P:Program} {w:World} {h:Hp} {hd:Nat->Value} {bl:Nat->Option aO}
theorem P0 {t:TypeId} {b:Bool} (e:lZ P t = some b):(isAgg t).run P w = .ok b w:=by
 unfold lZ at e
 cases hu:P.underlying t with
 | none=>simp [hu] at e
 | some d =>
  unfold isAgg
  rw [î,Ô hu w]
  rw [hu] at e
  cases d <;> simp at e <;> subst e <;> rfl
theorem gR {t:TypeId} {i:TypeInfo} (e:P.info? t = some i):(sizeOf t).run P w = .ok i.size w:=by simp [sizeOf,typeInfo,e]
theorem nN {t:TypeId} {i:TypeInfo} (e:P.info? t = some i):(typeInfo t).run P w = .ok i w:=by simp [typeInfo,e]
theorem lJ {t:TypeId} {i:TypeInfo} {b:Bool} (hb:lZ P t = some b) (hi:P.info? t = some i) (g off:Nat) (cs:List Value) (hl:cs.length = if b then i.size else 1)
  (hc:∀ j u,cs[j]? = some u->w.cell? ⟨g,off + j,none⟩ = some u):(loadVar t ⟨g,off,none⟩).run P w = .ok (if b then .agg cs.toArray else cs.getD 0 undef) w:=by
 unfold loadVar
 rw [î,P0 hb]
 cases b with
 | true =>
  simp only [Ë] at hl ⊢
  have:=run_loadCells_list (P:=P) w ⟨g,off,none⟩ cs (fun j u hu=>by rw [PL]; exact hc j u hu)
  rw [hl] at this
  simp [Result.andThen,gR hi,this]
 | false =>
  obtain ⟨u,rfl⟩ : ∃ u,cs = [u]:=by
   match cs,hl with
   | [u],_=>exact ⟨u,rfl⟩
  have:=hc 0 u rfl
  simp only [Đ] at this
  simp [Result.andThen,this]
end
section
variable {P:Program} {nt:Nat} {w0:cF} {w:World} {h0 h:Hp} {fr:Nat->V} {bl:Nat->Option aO} {a:Act} {hd:Nat->Value}
theorem aEs (r:Rl nt w0 h0 fr bl a w h hd) {t:TypeId} {i:TypeInfo} {b:Bool} (hb:lZ P t = some b) (hi:P.info? t = some i) {C:Nat->List D->Option D} {site:Nat} {x:bO} {xv:Value} (hx:R3 h hd bl xv (bN fr x)) {v:V} {wr:List (Nat × Option aO)}
  (ha:cE C site (bN fr) bl (.load i.size b x) = some (v,wr)):wr = [] ∧ ∃ cv,(Instr.loadAt t xv).run P w = .ok cv w ∧ R3 h hd bl cv v:=by
 simp only [cE] at ha
 generalize bN fr x = xx at ha hx
 -- cells of a row that is never written again
 have row_ok:∀ (g o:Nat) (row:List D) (cv:Nat->Value) (off:Nat),(∀ (j:Nat) (y:D),row[j]? = some y->h.cell g (o + j) = some (cv j))->(∀ (j:Nat) (y:D),row[j]? = some y->a6 h (cv j) y)->(∀ (j:Nat) (y:D),row[j]? = some y->(cv j).oneCell' = true)->(∀ (j:Nat) (y:D),row[j]? = some y->y.atom = true) ->
   (if b then (if off + i.size <= row.length then some (V.agg (((row.drop off).take i.size).map .d),([]:List (Nat × Option aO))) else none) else row[off]?.map fun v=>(V.d v,[])) = some (v,wr) ->
   wr = [] ∧ ∃ cv',(loadVar t ⟨g,o + off,none⟩).run P w = .ok cv' w ∧ R3 h hd bl cv' v:=by
  intro g o row cv off hm hr ho hat ha
  have hm' : ∀ (j:Nat) (y:D),row[j]? = some y->w.cell? ⟨g,o + j,none⟩ = some (cv j):=fun j y hy=>by rw [GU]; exact Hp.cell_le r.hle (hm j y hy)
  cases b with
  | true =>
   simp only [Ë] at ha
   split at ha
   ·rename_i hlen
    cases ha
    refine ⟨rfl,_,lJ hb hi g (o + off) ((List.range i.size).map fun j=>cv (off + j)) (by simp) ?_,?_⟩
    ·intro j u hu
     have hj:j < i.size:=by simpa using (Å.1 hu).1
     have:u = cv (off + j):=by
      rw [Ç,ā hj] at hu
      simpa using hu.symm
     subst this
     have:row[off + j]? = some row[off + j]:=by simp
     have:=hm' _ _ this
     rw [Ć]; exact this
    ·refine ⟨_,rfl,by simp; omega,fun j x hx=>?_⟩
     rw [Ç,Á] at hx
     obtain ⟨y,hy,rfl⟩:=hx
     rw [Ò] at hy
     split at hy
     ·rename_i hj
      rw [Ö] at hy
      have e:(((List.range i.size).map fun j=>cv (off + j)).toArray.getD j undef) = cv (off + j):=by simp [hj]
      rw [e]
      exact ⟨⟨hat _ _ hy,hr _ _ hy⟩,ho _ _ hy⟩
     ·cases hy
   ·cases ha
  | false =>
   simp only [Æ,È,Á] at ha
   obtain ⟨y,hy,ha⟩:=ha
   cases ha
   refine ⟨rfl,_,lJ hb hi g (o + off) [cv off] (by simp) ?_,?_⟩
   ·intro j u hu
    obtain rfl:j = 0:=by
     have:=(Å.1 hu).1
     simp at this; omega
    simp at hu
    subst hu
    exact hm' _ _ hy
   ·exact ⟨hat _ _ hy,by simpa using hr _ _ hy⟩
 have NQ:∀ (n:Nat) (row:List D) (cv:Nat->Value),(∀ (j:Nat) (y:D),row[j]? = some y->a6 h (cv j) y)->(∀ (j:Nat) (y:D),row[j]? = some y->(cv j).oneCell' = true)->∀ (j:Nat) (y:D),row[j]? = some y->y.atom = true:=by
  intro n row cv hr ho j y hy
  have h1:=hr j y hy
  have h2:=ho j y hy
  cases y <;> first | rfl | (generalize cv j = u at h1 h2; cases h1; simp [Value.oneCell'] at h2)
 cases xx with
 | ptr id off =>
  obtain ⟨⟨bb,hbl,hbx⟩,g,hg,rfl⟩:=O3 hx
  cases bb with
  | rows=>simp [aO.isBox] at hbx
  | froz=>simp [aO.isBox] at hbx
  | outer=>simp [aO.isBox] at hbx
  | mp=>simp [aO.isBox] at hbx
  | fmp=>simp [aO.isBox] at hbx
  | fbox row =>
   have hr0:=r.blk id _ hbl
   simp only [BR,hg] at hr0
   have hr1:=OQ (off:=off) hr0
   simp only [hbl] at ha
   generalize hq:D.ptr row off = q at hr1
   cases hr1 <;> first | (cases hq; done) | skip
   cases hq
   rename_i o cv hr ho hm hn
   have:=row_ok g o row cv off hm hr ho (NQ 0 row cv hr ho) ha
   rw [← hn] at this
   simp only [Instr.loadAt,Instr.sureAddr,î,ĕ,ñ]
   exact this
  | box cs =>
   obtain ⟨g',arr,e,q1,q2,q3,q4,q5,q6⟩:=r.blk id _ hbl
   rw [hg] at q1
   cases q1
   simp only [hbl] at ha
   have hm' : ∀ (j:Nat) (y:V),cs[j]? = some y->w.cell? ⟨g,j,none⟩ = some (arr.getD j undef):=fun j y hy=>by
    rw [cell_of_row w g j arr e _ q3]
    have:j < arr.size:=by rw [q4]; exact (Å.1 hy).1
    simp [this]
   simp only [Instr.loadAt,Instr.sureAddr,î,ĕ,ñ]
   cases b with
   | true =>
    simp only [Ë] at ha
    split at ha
    ·rename_i hlen
     cases ha
     refine ⟨rfl,_,lJ hb hi g off ((List.range i.size).map fun j=>arr.getD (off + j) undef) (by simp) ?_,?_⟩
     ·intro j u hu
      have hj:j < i.size:=by simpa using (Å.1 hu).1
      have:u = arr.getD (off + j) undef:=by
       rw [Ç,ā hj] at hu
       simpa using hu.symm
      subst this
      exact hm' (off + j) cs[off + j] (by simp)
     ·refine ⟨_,rfl,by simp; omega,fun j x hx=>?_⟩
      rw [Ò] at hx
      split at hx
      ·rename_i hj
       rw [Ö] at hx
       have e:(((List.range i.size).map fun j=>arr.getD (off + j) undef).toArray.getD j undef) = arr.getD (off + j) undef:=by simp [hj]
       rw [e]
       exact q5 _ _ hx
      ·cases hx
    ·cases ha
   | false =>
    simp only [Æ,È,Á] at ha
    obtain ⟨y,hy,ha⟩:=ha
    cases ha
    refine ⟨rfl,_,lJ hb hi g off [arr.getD off undef] (by simp) ?_,?_⟩
    ·intro j u hu
     obtain rfl:j = 0:=by
      have:=(Å.1 hu).1
      simp at this; omega
     simp only [ï,Ä] at hu
     subst hu
     exact hm' _ _ hy
    ·exact R3.of2 (R2.of1 (by simpa using (q5 _ _ hy).1))
 | d y =>
  cases y with
  | ptr row off =>
   simp only at ha
   obtain ⟨hat,hr⟩ : D.atom _ = true ∧ a6 h xv (.ptr row off):=hx
   generalize hq:D.ptr row off = q at hr
   cases hr <;> first | (cases hq; done) | skip
   rename_i b' o off' n row' cv hn hm hr ho
   cases hq
   subst hn
   simp only [Instr.loadAt,Instr.sureAddr,î,ĕ,ñ]
   exact row_ok b' o row cv off hm hr ho (NQ 0 row cv hr ho) ha
  | _=>cases ha
 | orow id ver ii off =>
  simp only at ha
  cases hbl:bl id with
  | none=>simp [hbl] at ha
  | some blk =>
   cases blk with
   | rows vv e sz rows =>
    simp only [hbl] at ha
    split at ha
    ·rename_i hv
     subst hv
     obtain ⟨b',c,hb',hc,hle,_,hx'⟩ : ∃ b c,bl id = some b ∧ b.ver? = some c ∧ ver <= c ∧ xv.oneCell' = true ∧ ∀ e size rows,b = .rows ver e size rows->∃ g b n c,hd id = .slice (some ⟨g,b,none⟩) n c ∧ xv = .pointer (some ⟨g,b + (ii * size + off),none⟩):=hx
     rw [hbl] at hb'
     cases hb'
     obtain ⟨g,bs,n,c,hg,rfl⟩:=hx' e sz rows rfl
     obtain ⟨q1,q2,⟨xs,q3,q4⟩,q5⟩:=r.blk id _ hbl
     cases hrow:rows[ii]? with
     | none=>simp [hrow] at ha
     | some row =>
      simp only [hrow] at ha
      obtain ⟨p1,p2⟩:=q4 ii row hrow
      rcases q3.2 with ⟨q6,_⟩ | ⟨g',oo,cap,cur,q6,q8,q9,q10,q11,q12⟩
      ·rw [hg] at q6; cases q6
      ·rw [hg] at q6
       cases q6
       have hcell:∀ (j:Nat) (y:D),row[j]? = some y->∃ u,cur[oo * sz + (ii * sz + j)]? = some u ∧ a6 h u y ∧ y.atom = true:=by
        intro j y hy
        obtain ⟨s1,u,s2,s3⟩:=p2 j y hy
        rw [← q12,Ò] at s2
        split at s2
        ·exact ⟨u,by rw [Ö] at s2; simpa using s2,s3,s1⟩
        ·cases s2
       simp only [Instr.loadAt,Instr.sureAddr,î,ĕ,ñ]
       -- here the cells lie in memory of the call's own
       have hm' : ∀ (j:Nat) (y:D),row[j]? = some y->w.cell? ⟨g,oo * sz + (ii * sz + j),none⟩ = some (cur.getD (oo * sz + (ii * sz + j)) undef):=fun j y hy=>by
        obtain ⟨u,s1,s2,s3⟩:=hcell j y hy
        rw [cell_of_row w g _ cur e _ q8]
        simp [s1]
       have hrd:∀ (j:Nat) (y:D),row[j]? = some y->a6 h (cur.getD (oo * sz + (ii * sz + j)) undef) y ∧ y.atom = true:=fun j y hy=>by
        obtain ⟨u,s1,s2,s3⟩:=hcell j y hy
        simp only [É,s1,è]
        exact ⟨s2,s3⟩
       cases b with
       | true =>
        simp only [Ë] at ha
        split at ha
        ·rename_i hlen
         cases ha
         refine ⟨rfl,_,lJ hb hi g (oo * sz + (ii * sz + off)) ((List.range i.size).map fun j=>cur.getD (oo * sz + (ii * sz + (off + j))) undef) (by simp) ?_,?_⟩
         ·intro j u hu
          have hj:j < i.size:=by simpa using (Å.1 hu).1
          have:u = cur.getD (oo * sz + (ii * sz + (off + j))) undef:=by
           rw [Ç,ā hj] at hu
           simpa using hu.symm
          subst this
          rw [Ć,Ć]
          exact hm' (off + j) row[off + j] (by simp)
         ·refine ⟨_,rfl,by simp; omega,fun j x hx=>?_⟩
          rw [Ç,Á] at hx
          obtain ⟨y,hy,rfl⟩:=hx
          rw [Ò] at hy
          split at hy
          ·rename_i hj
           rw [Ö] at hy
           have e:(((List.range i.size).map fun j=>cur.getD (oo * sz + (ii * sz + (off + j))) undef).toArray.getD j undef) = cur.getD (oo * sz + (ii * sz + (off + j))) undef:=by simp [hj]
           rw [e]
           exact ⟨⟨(hrd _ _ hy).2,(hrd _ _ hy).1⟩,(hrd _ _ hy).1.one (hrd _ _ hy).2⟩
          ·cases hy
        ·cases ha
       | false =>
        simp only [Æ,È,Á] at ha
        obtain ⟨y,hy,ha⟩:=ha
        cases ha
        refine ⟨rfl,_,lJ hb hi g (oo * sz + (ii * sz + off)) [cur.getD (oo * sz + (ii * sz + off)) undef] (by simp) ?_,?_⟩
        ·intro j u hu
         obtain rfl:j = 0:=by
          have:=(Å.1 hu).1
          simp at this; omega
         simp only [ï,Ä] at hu
         subst hu
         exact hm' _ _ hy
        ·exact ⟨(hrd _ _ hy).2,by simpa using (hrd _ _ hy).1⟩
    ·cases ha
   | _=>simp [hbl] at ha
 | _=>cases ha
end
end Vm
end
section
namespace Vm
open Go.RowKit
theorem F0 {α:Type}:∀ (l:List α) (o:Nat) (xs:List α) (j:Nat),o + xs.length <= l.length->(iT l o xs)[j]? = if o <= j ∧ j < o + xs.length then xs[j - o]? else l[j]?
 | l,o,[],j,_=>by
  have:iT l o ([]:List α) = l:=by cases l <;> cases o <;> rfl
  rw [this,Ã]; simp
 | [],o,x :: r,j,h=>by simp at h
 | y :: l,0,x :: r,0,h=>by simp [iT]
 | y :: l,0,x :: r,j + 1,h=>by
  simp only [iT,é]
  rw [F0 l 0 r j (by simp at h ⊢; omega)]
  simp only [Ĩ,Ċ,true_and,Ø,Nat.add_lt_add_iff_right,Nat.sub_zero,é]
 | y :: l,n + 1,x :: r,0,h=>by simp [iT]
 | y :: l,n + 1,x :: r,j + 1,h=>by
  simp only [iT,é]
  rw [F0 l n (x :: r) j (by simp at h ⊢; omega)]
  have e:j + 1 - (n + 1) = j - n:=by omega
  rw [e]
  by_cases q:n <= j ∧ j < n + (x :: r).length
  ·rw [Â q,Â (by omega)]
  ·rw [Ã q,Ã (by omega)]
theorem F9 {α:Type}:∀ (l:List α) (o:Nat) (xs:List α),(iT l o xs).length = l.length
 | l,o,[]=>by cases l <;> cases o <;> rfl
 | [],o,x :: r=>by cases o <;> rfl
 | y :: l,0,x :: r=>by simp [iT,F9 l 0 r]
 | y :: l,n + 1,x :: r=>by simp [iT,F9 l n (x :: r)]
theorem GL {α:Type} (l xs:List α) (o j:Nat) (h:o + xs.length <= l.length):(l.take o ++ xs ++ l.drop (o + xs.length))[j]? = if o <= j ∧ j < o + xs.length then xs[j - o]? else l[j]?:=by
 have hl:(l.take o).length = o:=by simp; omega
 by_cases h1:j < o
 ·rw [ç,à (by omega),Ã (by omega),Ò,Â h1]
 ·by_cases h2:j < o + xs.length
  ·rw [Â ⟨by omega,h2⟩,ç,å (by omega),à (by omega),hl]
  ·rw [Ã (by omega),å (by simp; omega),Ö]
   congr 1
   simp; omega
section
variable {h:Hp} {hd:Nat->Value} {bl:Nat->Option aO} {v:Value}
theorem FW {x:V} (r:R3 h hd bl v x) (hx:x.known = true):v.cells.size = x.cells.length ∧ ∀ j y,x.cells[j]? = some y->R1 h hd bl (v.cells.getD j undef) y ∧ (v.cells.getD j undef).oneCell' = true:=by
 have key:∀ y:V,R1 h hd bl v y->y ≠ .any->y.cells = [y]->v.cells.size = y.cells.length ∧ ∀ j z,y.cells[j]? = some z->R1 h hd bl (v.cells.getD j undef) z ∧ (v.cells.getD j undef).oneCell' = true:=by
  intro y r1 hne hc
  have ho:=r1.one hne
  have hv:v.cells = #[v]:=by cases v <;> first | rfl | simp [Value.oneCell'] at ho
  rw [hc,hv]
  refine ⟨rfl,fun j z hz=>?_⟩
  cases j with
  | zero=>simp at hz; subst hz; exact ⟨r1,ho⟩
  | succ j=>simp at hz
 cases x with
 | any=>simp [V.known] at hx
 | tup vs=>simp [V.known] at hx
 | agg cs=>obtain ⟨arr,rfl,h1,h2⟩:=NK r; exact ⟨h1,h2⟩
 | _=>exact key _ r (by simp) rfl
end
section
variable {P:Program} {nt:Nat} {w0:cF} {w:World} {h0 h:Hp} {fr:Nat->V} {bl:Nat->Option aO} {a:Act} {hd:Nat->Value}
theorem z0 (w:World) (g:Nat) (cs:Array Value):w.grownBy (w.setRow g cs) (some g) :=
 ⟨rfl,rfl,rfl,by simp,fun k _ hk=>setRow_other w g k _ (fun e=>hk (by rw [e]))⟩
theorem aBw (r:Rl nt w0 h0 fr bl a w h hd) {t:TypeId} {i:TypeInfo} (hi:P.info? t = some i) {xv vv:Value} {id off:Nat} {y:V} (hx:R3 h hd bl xv (.ptr id off)) (hy:R3 h hd bl vv y) {cs:List V} (hb:bl id = some (.box cs))
  (hl:y.cells.length = i.size) (ho:off + i.size <= cs.length) (hk:y.known = true) (dst:Option Nat) (hdst:GB nt w0 dst) (cv:Value) :
  ∃ w' hd',(Instr.storeAt t xv vv).run P w = .ok () w' ∧ Rl nt w0 h0 (fB fr dst .any) (bQ bl [(id,some (.box (iT cs off y.cells)))]) (a.put dst cv) w' h hd':=by
 obtain ⟨_,g,hg,rfl⟩:=O3 hx
 obtain ⟨g',arr,e,q1,q2,q3,q4,q5,q6⟩:=r.blk id _ hb
 rw [hg] at q1
 cases q1
 obtain ⟨c1,c2⟩:=FW hy hk
 have hall:∀ u ∈ vv.cells.toList,u.oneCell' = true:=by
  intro u hu
  obtain ⟨j,hj,rfl⟩:=ě.1 hu
  have hj' : j < vv.cells.size:=by simpa using hj
  have:=(c2 j (y.cells[j]'(by omega)) (by simp)).2
  simpa [hj'] using this
 have hrun:=Ĥ P g off e vv.cells.toList 0 arr w q3 (by simp; omega) hall
 simp only [Đ] at hrun
 have hfull:(Instr.storeAt t (.pointer (some ⟨g,off,none⟩)) vv).run P w = .ok () (w.setRow g (arr.toList.take off ++ vv.cells.toList ++ arr.toList.drop (off + vv.cells.toList.length)).toArray):=by
  have hsz:vv.cells.size = i.size:=by omega
  simp [Instr.storeAt,Instr.sureAddr,storeVar,gR hi,hsz,Result.andThen,hrun]
 have hget:∀ j,(arr.toList.take off ++ vv.cells.toList ++ arr.toList.drop (off + vv.cells.toList.length))[j]? = if off <= j ∧ j < off + vv.cells.toList.length then vv.cells.toList[j - off]? else arr.toList[j]?:=fun j=>GL _ _ _ _ (by simp; omega)
 have hr:∀ j z,(iT cs off y.cells)[j]? = some z->R1 h hd bl ((arr.toList.take off ++ vv.cells.toList ++ arr.toList.drop (off + vv.cells.toList.length)).toArray.getD j undef) z ∧ ((arr.toList.take off ++ vv.cells.toList ++ arr.toList.drop (off + vv.cells.toList.length)).toArray.getD j undef).oneCell' = true:=by
  intro j z hz
  rw [F0 cs off y.cells j (by omega)] at hz
  by_cases hj:off <= j ∧ j < off + y.cells.length
  ·rw [Â hj] at hz
   have e1:((arr.toList.take off ++ vv.cells.toList ++ arr.toList.drop (off + vv.cells.toList.length)).toArray.getD j undef) = vv.cells.getD (j - off) undef:=by
    simp only [É,List.getElem?_toArray]
    rw [hget j,Â (by simp; omega)]
    simp
   rw [e1]; exact c2 _ _ hz
  ·rw [Ã hj] at hz
   have e1:((arr.toList.take off ++ vv.cells.toList ++ arr.toList.drop (off + vv.cells.toList.length)).toArray.getD j undef) = arr.getD j undef:=by
    simp only [É,List.getElem?_toArray]
    rw [hget j,Ã (by simp; omega)]
    simp
   rw [e1]; exact q5 _ _ hz
 obtain ⟨hd',h'⟩:=r.setBox (w':=w.setRow g _) dst hdst cv id cs (iT cs off y.cells) hb g arr (arr.toList.take off ++ vv.cells.toList ++ arr.toList.drop (off + vv.cells.toList.length)).toArray e hg
  (by simp [F9]; omega) hr (Ĺ w g arr _ e _ q3) (z0 w g _)
 exact ⟨_,hd',hfull,h'⟩
end
section
variable {P:Program} {nt:Nat} {w0:cF} {w:World} {h0 h:Hp} {fr:Nat->V} {bl:Nat->Option aO} {a:Act} {hd:Nat->Value}
theorem aEl (x:V):wX bl (GC bl x):=by
 intro p hp
 unfold GC at hp
 split at hp
 ·split at hp
  ·rename_i id ver v e s rows hb
   simp at hp
   subst hp
   exact .inl ⟨v,e,s,rows,hb,rfl⟩
  ·cases hp
 ·split at hp
  ·rename_i id ek m hb
   simp at hp
   subst hp
   exact .inr (.inr ⟨ek,m,hb,rfl⟩)
  ·cases hp
 ·cases hp
theorem wX.mono1 {l m:List (Nat × Option aO)} (h1:wX bl l) (h:∀ p ∈ l,p ∈ m):∀ p ∈ l,(∃ v e s rows,bl p.1 = some (.rows v e s rows) ∧ p.2 = some (.froz v rows)) ∨
  (∃ cs ds,bl p.1 = some (.box cs) ∧ p.2 = some (.fbox ds) ∧ aT (nF bl) cs = some ds ∧ ∀ q ∈ cs.flatMap (GC bl),q ∈ m) ∨
  ∃ ek m,bl p.1 = some (.mp ek m) ∧ p.2 = some (.fmp ek m):=fun p hp=>by
 rcases h1 p hp with q | ⟨cs,ds,q1,q2,q3,q4⟩ | q
 ·exact .inl q
 ·exact .inr (.inl ⟨cs,ds,q1,q2,q3,fun q hq=>h q (q4 q hq)⟩)
 ·exact .inr (.inr q)
theorem PC (x:V):wX bl (CP bl x):=by
 cases x with
 | ptr id off =>
  simp only [CP]
  split
  ·rename_i cs hb
   split
   ·rename_i ds hm
    intro p hp
    rcases Û.1 hp with rfl | hp
    ·exact .inr (.inl ⟨cs,ds,hb,rfl,hm,fun q hq=>Ý _ hq⟩)
    ·obtain ⟨y,hy,hpy⟩:=Î.1 hp
     exact (aEl y).mono1 (fun q hq=>Ý _ (Î.2 ⟨y,hy,hq⟩)) p hpy
   ·intro p hp; cases hp
  ·intro p hp; cases hp
 | _=>simp only [CP]; exact aEl _
theorem aCo (x:V):wX bl (yG bl x):=by
 unfold yG
 split
 ·intro p hp
  obtain ⟨y,hy,hpy⟩:=Î.1 hp
  exact (PC y).mono1 (fun q hq=>Î.2 ⟨y,hy,hq⟩) p hpy
 ·exact PC x
theorem wX.append {l m:List (Nat × Option aO)} (h1:wX bl l) (h2:wX bl m):wX bl (l ++ m):=fun p hp=>(Ó.1 hp).elim (h1.mono1 (fun q hq=>Ó.2 (.inl hq)) p) (h2.mono1 (fun q hq=>Ó.2 (.inr hq)) p)
theorem wX.flatMap {α:Type} (l:List α) (f:α->V):wX bl (l.flatMap fun x=>yG bl (f x)):=fun p hp=>by
 obtain ⟨y,hy,hpy⟩:=Î.1 hp
 exact (aCo (f y)).mono1 (fun q hq=>Î.2 ⟨y,hy,hq⟩) p hpy
theorem wX.flatMap1 {α:Type} (l:List α) (f:α->V):wX bl (l.flatMap fun x=>CP bl (f x)):=fun p hp=>by
 obtain ⟨y,hy,hpy⟩:=Î.1 hp
 exact (PC (f y)).mono1 (fun q hq=>Î.2 ⟨y,hy,hq⟩) p hpy
theorem nB (r:Rl nt w0 h0 fr bl a w h hd) (wr:List (Nat × Option aO)) {v:Value} {x:V} {d:D} (hx:R1 h hd bl v x) (e:iQ bl x = some d) (hw:∀ p ∈ CP bl x,p ∈ wr) :
  a6 (H5 w h hd wr) v d ∧ d.atom = true:=by
 cases x with
 | ptr id off =>
  obtain ⟨⟨b,hb,hbx⟩,g,hg,rfl⟩:=hx
  simp only [iQ,hb] at e
  cases b with
  | fbox cs =>
   simp only [Ä] at e
   subst e
   have:=r.blk id _ hb
   simp only [BR,hg] at this
   exact ⟨a6.mono (uK r wr) (OQ this),rfl⟩
  | box cs =>
   simp only [Á] at e
   obtain ⟨ds,hm,rfl⟩:=e
   have hf:CP bl (.ptr id off) = (id,some (.fbox ds)) :: cs.flatMap (GC bl):=by simp only [CP,hb,hm]
   rw [hf] at hw
   have:=aL0 r wr (p:=(id,some (.fbox ds))) (hw _ (ò ..)) hb hm fun q hq=>hw q (Ý _ hq)
   simp only [hg] at this
   exact ⟨OQ this,rfl⟩
  | _=>cases e
 | d y=>exact G8 r wr (x:=.d y) hx e hw
 | nil=>exact G8 r wr (x:=.nil) hx e hw
 | own i n=>exact G8 r wr (x:=.own i n) hx e hw
 | fn f c=>exact G8 r wr (x:=.fn f c) hx e hw
 | mp i=>exact G8 r wr (x:=.mp i) hx e hw
 | any=>cases e
 | agg cs=>cases e
 | tup cs=>cases e
 | orow i n j o=>cases e
theorem oL (r:Rl nt w0 h0 fr bl a w h hd) (wr:List (Nat × Option aO)) {v:Value} {x:V} {d:D} (hx:R2 h hd bl v x) (e:iX bl x = some d) (hw:∀ p ∈ yG bl x,p ∈ wr) :
  a6 (H5 w h hd wr) v d:=by
 cases x with
 | agg cs =>
  obtain ⟨arr,rfl,h1,h2⟩:=hx
  simp only [iX] at e
  cases hm:aT (iQ bl) cs with
  | none=>simp [hm] at e
  | some ds =>
   simp only [hm,Ù,Ä] at e
   subst e
   obtain ⟨m1,m2⟩:=bP hm
   have key:∀ (j:Nat) (y:D),ds[j]? = some y->a6 (H5 w h hd wr) (arr.getD j undef) y ∧ (arr.getD j undef).oneCell' = true:=by
    intro j y hy
    obtain ⟨z,q1,q2⟩:=bU hm hy
    refine ⟨(nB r wr (h2 j z q1).1 q2 fun p hp=>hw p ?_).1,(h2 j z q1).2⟩
    exact Î.2 ⟨z,Ê q1,hp⟩
   exact .agg arr ds (by omega) (fun j y hy=>(key j y hy).1) (fun j y hy=>(key j y hy).2)
 | tup vs=>cases e
 | d y=>exact (nB (x:=.d y) r wr hx e hw).1
 | nil=>exact (nB (x:=.nil) r wr hx e hw).1
 | own i n=>exact (nB (x:=.own i n) r wr hx e hw).1
 | fn f c=>exact (nB (x:=.fn f c) r wr hx e hw).1
 | mp i=>exact (nB (x:=.mp i) r wr hx e hw).1
 | any=>cases e
 | ptr i o=>exact (nB (x:=.ptr i o) r wr hx e hw).1
 | orow i n j o=>cases e
theorem aLS (r:Rl nt w0 h0 fr bl a w h hd) (wr:List (Nat × Option aO)) {v:Value} {x:V} {d:D} (hx:R3 h hd bl v x) (e:toD bl x = some d) (hw:∀ p ∈ (match x with | .tup vs=>vs.flatMap (yG bl) | x=>yG bl x),p ∈ wr) :
  a6 (H5 w h hd wr) v d:=by
 cases x with
 | tup cs =>
  obtain ⟨arr,rfl,h1,h2⟩:=hx
  simp only [toD] at e
  cases hm:aT (iX bl) cs with
  | none=>simp [hm] at e
  | some ds =>
   simp only [hm,Ù,Ä] at e
   subst e
   obtain ⟨m1,m2⟩:=bP hm
   refine .tup arr ds (by omega) (fun j y hy=>?_) (fun j y hy=>?_)
   ·obtain ⟨z,q1,q2⟩:=bU hm hy
    exact oL r wr (h2 j z q1) q2 fun p hp=>hw p (Î.2 ⟨z,Ê q1,hp⟩)
   ·obtain ⟨z,q1,q2⟩:=bU hm hy
    have hz:=h2 j z q1
    have:=oL r (yG bl z) hz q2 fun p hp=>hp
    cases y with
    | tup us =>
     exfalso
     cases z with
     | agg cs=>simp only [iX] at q2; cases hq:aT (iQ bl) cs <;> simp [hq] at q2
     | d x=>exact absurd (nB (x:=.d x) r _ hz q2 fun p hp=>hp).2 (by simp [D.atom])
     | nil=>exact absurd (nB (x:=.nil) r _ hz q2 fun p hp=>hp).2 (by simp [D.atom])
     | own i n=>exact absurd (nB (x:=.own i n) r _ hz q2 fun p hp=>hp).2 (by simp [D.atom])
     | fn f c=>exact absurd (nB (x:=.fn f c) r _ hz q2 fun p hp=>hp).2 (by simp [D.atom])
     | mp i=>exact absurd (nB (x:=.mp i) r _ hz q2 fun p hp=>hp).2 (by simp [D.atom])
     | any=>cases q2
     | tup vs=>cases q2
     | ptr i o=>exact absurd (nB (x:=.ptr i o) r _ hz q2 fun p hp=>hp).2 (by simp [D.atom])
     | orow i n j o=>cases q2
    | _=>rfl
 | agg cs=>exact oL (x:=.agg cs) r wr hx e hw
 | d y=>exact oL (x:=.d y) r wr hx e hw
 | nil=>exact oL (x:=.nil) r wr hx e hw
 | own i n=>exact oL (x:=.own i n) r wr hx e hw
 | fn f c=>exact oL (x:=.fn f c) r wr hx e hw
 | mp i=>exact oL (x:=.mp i) r wr hx e hw
 | any=>cases e
 | ptr i o=>exact oL (x:=.ptr i o) r wr hx e hw
 | orow i n j o=>cases e
theorem aO1 {v:Value} {d:D} (r:a6 h v d) (ho:v.oneCell' = true):R1 h hd bl v (.d d):=by
 refine ⟨?_,r⟩
 cases r <;> first | rfl | simp [Value.oneCell'] at ho
theorem AK {v:Value} {d:D} (r:a6 h v d) (ht:∀ vs,d ≠ .tup vs):R2 h hd bl v (aOk d):=by
 cases r with
 | agg arr cs hl hr ho =>
  refine ⟨arr,rfl,by simpa using hl,fun j x hx=>?_⟩
  rw [Ç,Á] at hx
  obtain ⟨y,hy,rfl⟩:=hx
  exact ⟨aO1 (hr j y hy) (ho j y hy),ho j y hy⟩
 | tup arr vs=>exact absurd rfl (ht vs)
 | int k n=>exact ⟨rfl,.int k n⟩
 | bool b=>exact ⟨rfl,.bool b⟩
 | str s hs=>exact ⟨rfl,.str s hs⟩
 | np=>exact ⟨rfl,.np⟩
 | fn f arr cs hl hr=>exact ⟨rfl,.fn f arr cs hl hr⟩
 | sl0 a c h0=>exact ⟨rfl,.sl0 a c h0⟩
 | sl b off c k n rows cv hn hc hk hm hr ho=>exact ⟨rfl,.sl b off c k n rows cv hn hc hk hm hr ho⟩
 | ptr b o off n row cv hn hm hr ho=>exact ⟨rfl,.ptr b o off n row cv hn hm hr ho⟩
 | mp0=>exact ⟨rfl,.mp0⟩
 | mp g ek m hm=>exact ⟨rfl,.mp g ek m hm⟩
theorem aDG {v:Value} {d:D} (r:a6 h v d):R3 h hd bl v (toV d):=by
 cases r with
 | tup arr vs hl hr hn =>
  refine ⟨arr,rfl,by simpa using hl,fun j x hx=>?_⟩
  rw [Ç,Á] at hx
  obtain ⟨y,hy,rfl⟩:=hx
  exact AK (hr j y hy) fun us e=>by have:=hn j y hy; rw [e] at this; simp [D.noTup] at this
 | agg arr cs hl hr ho=>exact AK (.agg arr cs hl hr ho) (fun vs e=>by cases e)
 | int k n=>exact ⟨rfl,.int k n⟩
 | bool b=>exact ⟨rfl,.bool b⟩
 | str s hs=>exact ⟨rfl,.str s hs⟩
 | np=>exact ⟨rfl,.np⟩
 | fn f arr cs hl hr=>exact ⟨rfl,.fn f arr cs hl hr⟩
 | sl0 a c h0=>exact ⟨rfl,.sl0 a c h0⟩
 | sl b off c k n rows cv hn hc hk hm hr ho=>exact ⟨rfl,.sl b off c k n rows cv hn hc hk hm hr ho⟩
 | ptr b o off n row cv hn hm hr ho=>exact ⟨rfl,.ptr b o off n row cv hn hm hr ho⟩
 | mp0=>exact ⟨rfl,.mp0⟩
 | mp g ek m hm=>exact ⟨rfl,.mp g ek m hm⟩
theorem BI {v:Value} {d:D} (r:a6 h v d) (hf:HV d = true) (k:Hp):a6 k v d:=by
 cases r with
 | int k n=>exact .int k n
 | bool b=>exact .bool b
 | str s hs=>exact .str s hs
 | _=>simp [HV] at hf
theorem QX {v:Value} {d:D} (r:a6 h v d) (hf:aBm d = true) (k:Hp):a6 k v d:=by
 cases r with
 | agg arr cs hl hr ho=>exact .agg arr cs hl (fun j x hx=>BI (hr j x hx) (Ì.1 hf x (Ê hx)) k) ho
 | int k n=>exact .int k n
 | bool b=>exact .bool b
 | str s hs=>exact .str s hs
 | _=>simp [aBm,HV] at hf
theorem DC {v:Value} {d:D} (r:a6 h v d) (hf:JR d = true) (k:Hp):a6 k v d:=by
 cases r with
 | tup arr vs hl hr hn=>exact .tup arr vs hl (fun j x hx=>QX (hr j x hx) (Ì.1 hf x (Ê hx)) k) hn
 | agg arr cs hl hr ho=>exact QX (.agg arr cs hl hr ho) hf k
 | int k n=>exact .int k n
 | bool b=>exact .bool b
 | str s hs=>exact .str s hs
 | _=>simp [JR,aBm,HV] at hf
end
end Vm
end
section
namespace Vm
open Go.RowKit
section
variable {P:Program} {nt:Nat} {w0:cF} {w:World} {h0 h:Hp} {fr:Nat->V} {bl:Nat->Option aO} {a:Act} {hd:Nat->Value}
def X6:D->Value
 | .int k n=>.int k n
 | .bool b=>.bool b
 | _=>undef
theorem SQ {d:D} (hd:(∃ k n,d = .int k n) ∨ ∃ b,d = .bool b):a6 h (X6 d) d ∧ d.atom = true:=by
 rcases hd with ⟨k,n,rfl⟩ | ⟨b,rfl⟩
 ·exact ⟨.int k n,rfl⟩
 ·exact ⟨.bool b,rfl⟩
theorem aCK {op:BinOp} {t:TypeId} {x y:Operand} {k:IntKind} {m n:Int} {d:D} (e:oF op k m n = some d) :
  ∃ cv,((do eqGuard op t x y (.int k m) (.int k n); binOp op t (.int k m) (.int k n)):Sem Value).run P w = .ok cv w ∧ a6 h cv d ∧ d.atom = true:=by
 refine ⟨X6 d,?_,SQ ?_⟩
 ·cases op <;> simp only [oF,reduceCtorEq] at e
  case quo=>split at e; cases e; rename_i hn; cases e; simp [eqGuard,binOp,Op.intDiv,hn,X6]
  case rem=>split at e; cases e; rename_i hn; cases e; simp [eqGuard,binOp,Op.intDiv,hn,X6]
  case shl=>split at e; rename_i hn; cases e; simp [eqGuard,binOp,Op.shift,hn.2,X6,Ĵ hn.2,show ¬ n < 0 by omega]; cases e
  case shr=>split at e; rename_i hn; cases e; simp [eqGuard,binOp,Op.shift,hn.2,X6,Ĵ hn.2,show ¬ n < 0 by omega]; cases e
  all_goals (cases e; simp [eqGuard,binOp,Op.intArith,Op.intBits,Op.intCmp,X6])
 ·cases op <;> simp only [oF,reduceCtorEq] at e
  case quo=>split at e; cases e; cases e; exact .inl ⟨_,_,rfl⟩
  case rem=>split at e; cases e; cases e; exact .inl ⟨_,_,rfl⟩
  case shl=>split at e; cases e; exact .inl ⟨_,_,rfl⟩; cases e
  case shr=>split at e; cases e; exact .inl ⟨_,_,rfl⟩; cases e
  all_goals (cases e; first | exact .inl ⟨_,_,rfl⟩ | exact .inr ⟨_,rfl⟩)
theorem aCE {op:BinOp} {t:TypeId} {x y:Operand} {m n:ByteArray} {d:D} (e:TN op m n = some d) :
  ∃ cv,((do eqGuard op t x y (.string m) (.string n); binOp op t (.string m) (.string n)):Sem Value).run P w = .ok cv w ∧ a6 h cv d ∧ d.atom = true:=by
 refine ⟨X6 d,?_,SQ ?_⟩
 ·cases op <;> simp only [TN,reduceCtorEq] at e
  all_goals (cases e; simp [eqGuard,binOp,Op.stringOp,X6])
 ·cases op <;> simp only [TN,reduceCtorEq] at e
  all_goals (cases e; exact .inr ⟨_,rfl⟩)
theorem aBn {op:BinOp} {t:TypeId} {x y:Operand} {m n:Bool} {d:D} (ht:P.underlying t = some .bool) (e:B3 1 op (.d (.bool m)) (.d (.bool n)) = some d) :
  ∃ cv,((do eqGuard op t x y (.bool m) (.bool n); binOp op t (.bool m) (.bool n)):Sem Value).run P w = .ok cv w ∧ a6 h cv d ∧ d.atom = true:=by
 have he:∀ k,(Op.equalIn (k + 1) t (.bool m) (.bool n)).run P w = .ok (m == n) w:=fun k=>by
  simp [Op.equalIn,Ô ht,Result.andThen]
 have he' : (Op.equal t (.bool m) (.bool n)).run P w = .ok (m == n) w:=he 9999
 cases op <;> simp only [B3,reduceCtorEq] at e
 ·obtain rfl:=ã e; exact ⟨_,by simp [eqGuard,binOp,he',Result.andThen],.bool _,rfl⟩
 ·obtain rfl:=ã e; exact ⟨_,by simp [eqGuard,binOp,he',Result.andThen],.bool _,rfl⟩
theorem aR8 {op:UnOp} {v:Value} {x:V} {d:D} (hx:R3 h hd bl v x) (e:unV op x = some d):∃ cv,(Op.unary op v).run P w = .ok cv w ∧ a6 h cv d ∧ d.atom = true:=by
 unfold unV at e
 split at e
 ·split at e
  ·rename_i b
   rw [oA hx]; cases e
   exact ⟨_,by simp [Op.unary],.bool _,rfl⟩
  ·cases e
 ·split at e
  ·rename_i k n
   rw [mC hx]; cases e
   exact ⟨_,by simp [Op.unary,Op.intArith],.int _ _,rfl⟩
  ·cases e
 ·cases e
theorem aLO (args:List Value):∀ (k:IntKind) (x:Int) (l:List V) (d:D),l.length = args.length->(∀ j y,l[j]? = some y->R3 h hd bl (args.getD j undef) y)->aBY k x l = some d ->
  ∃ cv,(args.foldlM Builtin.max2 (.int k x)).run P w = .ok cv w ∧ a6 h cv d ∧ d.atom = true:=by
 induction args with
 | nil =>
  intro k x l d hl hr e
  obtain rfl:l = []:=Í (by simpa using hl)
  simp only [aBY,Ä] at e
  subst e
  exact ⟨.int k x,by simp,.int k x,rfl⟩
 | cons v r ih =>
  intro k x l d hl hr e
  match l,hl with
  | y :: l',hl =>
   have h0:=hr 0 y rfl
   unfold aBY at e
   split at e
   ·rename_i heq; cases heq
   ·rename_i k' y' l'' heq
    cases heq
    split at e
    ·rename_i hk
     subst hk
     have:v = .int k y':=mC (by simpa using h0)
     subst this
     obtain ⟨cv,q1,q2⟩:=ih k _ l' d (by simpa using hl) (fun j z hz=>by simpa using hr (j + 1) z (by simpa using hz)) e
     exact ⟨cv,by simp [Builtin.max2,q1,Result.andThen],q2⟩
    ·cases e
   ·cases e
theorem aJz (args:List Value):∀ (k:IntKind) (x:Int) (l:List V) (d:D),l.length = args.length->(∀ j y,l[j]? = some y->R3 h hd bl (args.getD j undef) y)->aDI k x l = some d ->
  ∃ cv,(args.foldlM Builtin.min2 (.int k x)).run P w = .ok cv w ∧ a6 h cv d ∧ d.atom = true:=by
 induction args with
 | nil =>
  intro k x l d hl hr e
  obtain rfl:l = []:=Í (by simpa using hl)
  simp only [aDI,Ä] at e
  subst e
  exact ⟨.int k x,by simp,.int k x,rfl⟩
 | cons v r ih =>
  intro k x l d hl hr e
  match l,hl with
  | y :: l',hl =>
   have h0:=hr 0 y rfl
   unfold aDI at e
   split at e
   ·rename_i heq; cases heq
   ·rename_i k' y' l'' heq
    cases heq
    split at e
    ·rename_i hk
     subst hk
     have:v = .int k y':=mC (by simpa using h0)
     subst this
     obtain ⟨cv,q1,q2⟩:=ih k _ l' d (by simpa using hl) (fun j z hz=>by simpa using hr (j + 1) z (by simpa using hz)) e
     exact ⟨cv,by simp [Builtin.min2,q1,Result.andThen],q2⟩
    ·cases e
   ·cases e
theorem aOl (args:List Value) (l:List V) (d:D) (hl:l.length = args.length) (hr:∀ j y,l[j]? = some y->R3 h hd bl (args.getD j undef) y) (e:aNW l = some d) (ts:Array TypeId) (t:TypeId) :
  ∃ cv,(Builtin.max_ ts t args.toArray).run P w = .ok cv w ∧ a6 h cv d ∧ d.atom = true:=by
 unfold aNW at e
 split at e
 ·rename_i k x l'
  match args,hl with
  | v :: r,hl =>
   have:v = .int k x:=mC (by simpa using hr 0 _ rfl)
   subst this
   simp only [Builtin.max_]
   exact aLO r k x l' d (by simpa using hl) (fun j z hz=>by simpa using hr (j + 1) z (by simpa using hz)) e
 ·cases e
theorem aPy (args:List Value) (l:List V) (d:D) (hl:l.length = args.length) (hr:∀ j y,l[j]? = some y->R3 h hd bl (args.getD j undef) y) (e:aPE l = some d) (ts:Array TypeId) (t:TypeId) :
  ∃ cv,(Builtin.min_ ts t args.toArray).run P w = .ok cv w ∧ a6 h cv d ∧ d.atom = true:=by
 unfold aPE at e
 split at e
 ·rename_i k x l'
  match args,hl with
  | v :: r,hl =>
   have:v = .int k x:=mC (by simpa using hr 0 _ rfl)
   subst this
   simp only [Builtin.min_]
   exact aJz r k x l' d (by simpa using hl) (fun j z hz=>by simpa using hr (j + 1) z (by simpa using hz)) e
 ·cases e
theorem WY (r:Rl nt w0 h0 fr bl a w h hd) {off:Nat} (F:Value->Sem Value) (hrun:∀ g o,(F (.pointer (some ⟨g,o,none⟩))).run P w = .ok (.pointer (some ⟨g,o + off,none⟩)) w)
  {C:Nat->List D->Option D} {site:Nat} {x:bO} {xv:Value} (hx:R3 h hd bl xv (bN fr x)) {v:V} {wr:List (Nat × Option aO)} (ha:cE C site (bN fr) bl (.fieldAddr off x) = some (v,wr)) :
  wr = [] ∧ ∃ cv,(F xv).run P w = .ok cv w ∧ R3 h hd bl cv v:=by
 simp only [cE] at ha
 generalize bN fr x = y at ha hx
 cases y with
 | ptr id o =>
  cases ha
  obtain ⟨q1,g,q2,rfl⟩:=O3 hx
  exact ⟨rfl,_,hrun g o,q1,g,q2,rfl⟩
 | d y =>
  cases y with
  | ptr row o =>
   cases ha
   obtain ⟨_,hr⟩ : D.atom _ = true ∧ a6 h xv (.ptr row o):=hx
   cases hr with
   | ptr b o' off n row cv hn hm hr ho =>
    subst hn
    exact ⟨rfl,_,hrun b _,rfl,.ptr b o' (o + off) _ row cv (by omega) hm hr ho⟩
  | _=>cases ha
 | orow id ver ii o =>
  obtain ⟨b,c,hb,hc,hle,h1,he⟩ : ∃ b c,bl id = some b ∧ b.ver? = some c ∧ ver <= c ∧ xv.oneCell' = true ∧ ∀ e size rows,b = .rows ver e size rows->∃ g b n c,hd id = .slice (some ⟨g,b,none⟩) n c ∧ xv = .pointer (some ⟨g,b + (ii * size + o),none⟩):=hx
  simp only [hb] at ha
  cases b with
  | rows v' e s rows =>
   simp only at ha
   split at ha
   ·rename_i hv
    subst hv
    cases ha
    obtain ⟨g,bs,n,c',q1,rfl⟩:=he e s rows rfl
    refine ⟨rfl,_,hrun g _,_,_,hb,rfl,Õ _,rfl,fun e' s' rows' eq=>?_⟩
    cases eq
    exact ⟨g,bs,n,c',q1,by rw [Ć,Ć]⟩
   ·cases ha
  | _=>cases ha
 | _=>cases ha
theorem aFy (r:Rl nt w0 h0 fr bl a w h hd) {s f:Nat} {fs:Array Field} {fd:Field} {i:TypeInfo} (hs:P.underlying s = some (.struct fs)) (hf:fs[f]? = some fd) (hi:P.info? fd.type = some i) (hz:i.size ≠ 0)
  {C:Nat->List D->Option D} {site:Nat} {x:bO} {xv:Value} (hx:R3 h hd bl xv (bN fr x)) {v:V} {wr:List (Nat × Option aO)} (ha:cE C site (bN fr) bl (.fieldAddr fd.offset x) = some (v,wr)) :
  wr = [] ∧ ∃ cv,(Instr.fieldAt s xv f).run P w = .ok cv w ∧ R3 h hd bl cv v :=
 WY r (fun v=>Instr.fieldAt s v f) (fun g o=>by
  simp [Instr.fieldAt,Ô hs,hf,Instr.sureAddr,fieldPlace,gR hi,hz,Result.andThen,ċ]) hx ha
theorem aBk (r:Rl nt w0 h0 fr bl a w h hd) {t e:TypeId} {n:Nat} {i:TypeInfo} (ht:P.underlying t = some (.array n e)) (hi:P.info? e = some i) {k:IntKind} {q:Int} (h1:0 <= q) (h2:q < n)
  {C:Nat->List D->Option D} {site:Nat} {x:bO} {xv jv:Value} (hj:jv = .int k q) (hx:R3 h hd bl xv (bN fr x)) {v:V} {wr:List (Nat × Option aO)} (ha:cE C site (bN fr) bl (.fieldAddr (q.toNat * i.size) x) = some (v,wr)) :
  wr = [] ∧ ∃ cv,(Instr.indexAt t xv jv).run P w = .ok cv w ∧ R3 h hd bl cv v:=by
 subst hj
 refine WY r (fun v=>Instr.indexAt t v (.int k q)) (fun g o=>?_) hx ha
 simp [Instr.indexAt,Ô ht,asIntOf,h1,h2,Instr.sureAddr,gR hi,Result.andThen,ċ]
theorem aGf {t:TypeId} {e:TypeId} {i:TypeInfo} (ht:P.underlying t = some (.slice e)) (hi:P.info? e = some i) (r:Rl nt w0 h0 fr bl a w h hd) {C:Nat->List D->Option D} {site:Nat} {x j:bO} {xv jv:Value} (hx:R3 h hd bl xv (bN fr x)) (hj:R3 h hd bl jv (bN fr j))
  {v:V} {wr:List (Nat × Option aO)} (ha:cE C site (bN fr) bl (.indexAddr i.size x j) = some (v,wr)):wr = [] ∧ ∃ cv,(Instr.indexAt t xv jv).run P w = .ok cv w ∧ R3 h hd bl cv v:=by
 simp only [cE] at ha
 generalize bN fr x = y at ha hx
 generalize bN fr j = z at ha hj
 have hrun:∀ (g o n c:Nat) (k:IntKind) (q:Int),0 <= q->q.toNat < n->(Instr.indexAt t (.slice (some ⟨g,o,none⟩) n c) (.int k q)).run P w = .ok (.pointer (some ⟨g,o + q.toNat * i.size,none⟩)) w:=fun g o n c k q h1 h2=>by
  have h3:q < n:=by omega
  simp [Instr.indexAt,Ô ht,asIntOf,h1,h3,gR hi,Result.andThen,ċ]
 have pure_ok:∀ (k:IntKind) (q:Int) (rows:List (List D)) (row:List D),0 <= q->rows[q.toNat]? = some row->row.length = i.size->a6 h xv (.sl rows)->jv = .int k q->∃ cv,(Instr.indexAt t xv jv).run P w = .ok cv w ∧ R3 h hd bl cv (.d (.ptr row 0)):=by
  intro k q rows row h1 h2 h3 hr hq
  subst hq
  cases hr with
  | sl0 a c h0=>simp at h2
  | sl b off c kk n rows cv hn hc hk hm hr ho =>
   subst hn
   have hlt:q.toNat < rows.length:=(Å.1 h2).1
   have hkk:kk = i.size:=(hk _ _ h2).symm.trans h3
   refine ⟨_,hrun b off _ c k q h1 hlt,rfl,.ptr b (off + q.toNat * i.size) 0 _ row (cv q.toNat) rfl ?_ ?_ ?_⟩
   ·intro j x hx; rw [← hkk]; exact hm _ _ j x h2 hx
   ·intro j x hx; exact hr _ _ j x h2 hx
   ·intro j x hx; exact ho _ _ j x h2 hx
 cases z with
 | d z =>
  cases z with
  | int k q =>
   have hq:=mC hj
   simp only at ha
   cases y with
   | own id ver =>
    obtain ⟨b,c,hb,hc,hle,h1,he⟩ : ∃ b c,bl id = some b ∧ b.ver? = some c ∧ ver <= c ∧ xv.oneCell' = true ∧ (ver = c->xv = hd id):=hx
    simp only [hb] at ha
    cases b with
    | box cs=>cases ha
    | fbox cs=>cases ha
    | outer cs=>cases ha
    | mp ek m=>cases ha
    | fmp ek m=>cases ha
    | rows v' e' sz rows =>
     simp only at ha
     split at ha
     ·rename_i hv
      obtain ⟨rfl,rfl,g1,g2⟩:=hv
      cases ha
      simp only [aO.ver?,Ä] at hc
      obtain rfl:=he hc
      obtain ⟨q1,q2,⟨xs,q3,q4⟩,q5⟩:=r.blk id _ hb
      rcases q3.2 with ⟨q6,q7⟩ | ⟨g,oo,cap,cur,q6,_⟩
      ·omega
      ·refine ⟨rfl,.pointer (some ⟨g,oo * i.size + q.toNat * i.size,none⟩),by rw [q6,hq]; exact hrun g _ _ cap k q g1 g2,_,_,hb,rfl,Õ _,rfl,fun e s rows' eq=>?_⟩
       cases eq
       exact ⟨g,_,_,cap,q6,by simp⟩
     ·cases ha
    | froz v' rows =>
     simp only at ha
     split at ha
     ·rename_i hv
      obtain ⟨rfl,g1⟩:=hv
      simp only [aO.ver?,Ä] at hc
      obtain rfl:=he hc
      split at ha
      ·rename_i row hrow
       split at ha
       ·rename_i hlen
        cases ha
        exact ⟨rfl,pure_ok k q rows row g1 hrow hlen (r.blk id _ hb) hq⟩
       ·cases ha
      ·cases ha
     ·cases ha
   | d y =>
    cases y with
    | sl rows =>
     simp only at ha
     split at ha
     ·rename_i g1
      split at ha
      ·rename_i row hrow
       split at ha
       ·rename_i hlen
        cases ha
        exact ⟨rfl,pure_ok k q rows row g1 hrow hlen hx.2 hq⟩
       ·cases ha
      ·cases ha
     ·cases ha
    | _=>cases ha
   | _=>cases ha
  | _=>cases ha
 | _=>cases ha
theorem JB (r:Rl nt w0 h0 fr bl a w h hd) {x:V} {xv:Value} (hx:R3 h hd bl xv x) {rows:List (List D)} (e:gF bl x = some rows) :
  a6 (H5 w h hd (CP bl x)) xv (.sl rows):=by
 refine (nB r (CP bl x) (x:=x) (d:=.sl rows) ?_ ?_ fun p hp=>hp).1
 ·cases x <;> first | exact hx | cases e
 ·cases x with
  | d y=>cases y <;> first | cases e; rfl | cases e
  | nil=>cases e; rfl
  | own id ver =>
   simp only [gF,iQ,nF] at e ⊢
   split <;> rename_i hb <;> simp only [hb] at e
   ·split at e
    ·rename_i hv; cases e; rw [Â hv]
    ·cases e
   ·split at e
    ·rename_i hv; cases e; rw [Â hv]
    ·cases e
   ·cases e
  | _=>cases e
theorem aKd {h:Hp} {v:Value} {rows:List (List D)} (r:a6 h v (.sl rows)):∃ a n c,v = .slice a n c ∧ n = rows.length:=by
 cases r with
 | sl0 a c h0=>exact ⟨a,0,c,rfl,rfl⟩
 | sl b off c k n rows cv hn hc hk hm hr ho=>exact ⟨_,_,_,rfl,hn⟩
theorem aP1 (r:Rl nt w0 h0 fr bl a w h hd) {t ty e:TypeId} (ht:P.underlying t = some (.slice e)) {C:Nat->List D->Option D} {site:Nat} {x:bO} {xv:Value} (hx:R3 h hd bl xv (bN fr x)) {v:V} {wr:List (Nat × Option aO)}
  (ha:cE C site (bN fr) bl (.len x) = some (v,wr)):wr = [] ∧ ∃ cv,(Builtin.len_ #[t] ty #[xv]).run P w = .ok cv w ∧ R3 h hd bl cv v:=by
 simp only [cE] at ha
 rw [Á] at ha
 obtain ⟨rows,h1,h2⟩:=ha
 cases h2
 obtain ⟨ao,n,c,rfl,rfl⟩:=aKd (JB r hx h1)
 exact ⟨rfl,.int .i64 rows.length,by simp [Builtin.len_,Ô ht,goInt],rfl,.int _ _⟩
theorem WC (r:Rl nt w0 h0 fr bl a w h hd) {t e:TypeId} (hu:P.underlying t = some (.slice e)) {xv yv:Value} {x:V} (hx:R3 h hd bl xv x) (hy:R3 h hd bl yv .nil) {neg:Bool} {d:D} (e1:M8 bl neg x = some d) (xo yo:Operand) :
  ∃ cv,((do eqGuard (if neg then .neq else .eql) t xo yo xv yv; binOp (if neg then .neq else .eql) t xv yv):Sem Value).run P w = .ok cv w ∧ a6 h cv d ∧ d.atom = true:=by
 have hy' : yv = .slice none 0 0:=hy
 subst hy'
 have key:∃ ao n c,xv = .slice ao n c ∧ d = .bool (if neg then !ao.isNone else ao.isNone):=by
  unfold M8 at e1
  split at e1
  ·cases e1
   have:xv = .slice none 0 0:=hx
   subst this
   exact ⟨none,0,0,rfl,by cases neg <;> rfl⟩
  ·split at e1
   ·rename_i row rows hr
    cases e1
    have hrd:=JB r hx hr
    cases hrd with
    | sl b off c k n rows cv hn hc hk hm hr ho=>exact ⟨_,_,_,rfl,by cases neg <;> rfl⟩
   ·cases e1
 obtain ⟨ao,n,c,rfl,rfl⟩:=key
 refine ⟨.bool (if neg then !ao.isNone else ao.isNone),?_,.bool _,rfl⟩
 cases neg
 ·have q:=run_eql_slice_nil w t e ao n c hu
  simpa [eqGuard] using q
 ·have q:=run_neq_slice_nil w t e ao n c hu
  simpa [eqGuard] using q
theorem aAy {t e:TypeId} (hu:P.underlying t = some (.pointer e)) {xv yv:Value} {x:V} (hx:R3 h hd bl xv x) (hy:R3 h hd bl yv (.d .np)) {neg:Bool} {d:D} (e1:aAq neg x = some d) (xo yo:Operand) :
  ∃ cv,((do eqGuard (if neg then .neq else .eql) t xo yo xv yv; binOp (if neg then .neq else .eql) t xv yv):Sem Value).run P w = .ok cv w ∧ a6 h cv d ∧ d.atom = true:=by
 have hy' : yv = .pointer none:=by cases (show a6 h yv _ from hy.2); rfl
 subst hy'
 have hu' : P.underlying t = some (.pointer (P.pointee t)):=by
  rw [hu]
  unfold Program.pointee
  rw [hu]
 have key:∃ p:Option Addr,xv = .pointer p ∧ d = .bool (if neg then !p.isNone else p.isNone):=by
  unfold aAq at e1
  split at e1
  ·cases e1
   obtain ⟨_,g,_,rfl⟩:=O3 hx
   exact ⟨_,rfl,by cases neg <;> rfl⟩
  ·cases e1
   cases (show a6 h xv _ from hx.2)
   exact ⟨_,rfl,by cases neg <;> rfl⟩
  ·cases e1
   cases (show a6 h xv _ from hx.2)
   exact ⟨_,rfl,by cases neg <;> rfl⟩
  ·cases e1
 obtain ⟨p,rfl,rfl⟩:=key
 refine ⟨.bool (if neg then !p.isNone else p.isNone),?_,.bool _,rfl⟩
 cases neg
 ·have q:=run_eql_pointer_nil (P:=P) (w:=w) t p hu'
  simpa [eqGuard] using q
 ·have q:=run_neq_pointer_nil (P:=P) (w:=w) t p hu'
  simpa [eqGuard] using q
theorem YP (r:Rl nt w0 h0 fr bl a w h hd) {t e:TypeId} {n:Nat} {i:TypeInfo} (ht:P.underlying t = some (.array n e)) (hi:P.info? e = some i)
  {C:Nat->List D->Option D} {site:Nat} {x j:bO} {xv jv:Value} (hx:R3 h hd bl xv (bN fr x)) (hj:R3 h hd bl jv (bN fr j)) {v:V} {wr:List (Nat × Option aO)} (ha:cE C site (bN fr) bl (.indexArr n i.size x j) = some (v,wr)) :
  wr = [] ∧ ∃ cv,(Instr.indexAt t xv jv).run P w = .ok cv w ∧ R3 h hd bl cv v:=by
 simp only [cE] at ha
 generalize bN fr j = z at ha hj
 split at ha
 ·rename_i k q
  split at ha
  ·rename_i hc
   exact aBk (C:=C) (site:=site) r ht hi hc.1 hc.2 (mC hj) hx ha
  ·cases ha
 ·cases ha
theorem aK0 {t ty:TypeId} (ht:P.underlying t = some .string) {C:Nat->List D->Option D} {site:Nat} {x:bO} {xv:Value} (hx:R3 h hd bl xv (bN fr x)) {v:V} {wr:List (Nat × Option aO)}
  (ha:cE C site (bN fr) bl (.lenS x) = some (v,wr)):wr = [] ∧ ∃ cv,(Builtin.len_ #[t] ty #[xv]).run P w = .ok cv w ∧ R3 h hd bl cv v:=by
 simp only [cE] at ha
 generalize bN fr x = y at ha hx
 split at ha
 ·rename_i s
  cases ha
  rw [(EF hx).1]
  exact ⟨rfl,.int .i64 s.size,by simp [Builtin.len_,Ô ht,goInt],rfl,.int _ _⟩
 ·cases ha
end
end Vm
end
section
namespace Vm
open Go.RowKit
section
variable {P:Program} {nt:Nat} {w0:cF} {w:World} {h0 h:Hp} {fr:Nat->V} {bl:Nat->Option aO} {a:Act} {hd:Nat->Value}
theorem aC3 {h:Hp} {v:Value} {rows:List (List D)} {size:Nat} (r:a6 h v (.sl rows)) (hs:∀ row ∈ rows,row.length = size) (l:h.le (hw w)) :
  ∃ ao c news,v = .slice ao rows.length c ∧ (ao = none->rows.length = 0 ∧ c = 0) ∧ news.length = rows.length * size ∧ (∀ ad,ao = some ad->∀ (j:Nat) (u:Value),news[j]? = some u->w.cell? (ad.add j) = some u) ∧ (∀ u ∈ news,u.oneCell' = true) ∧ jE h size rows news:=by
 cases r with
 | sl0 a c h0=>exact ⟨a,c,[],rfl,fun e=>⟨rfl,h0 e⟩,by simp,fun ad _ j u hu=>by simp at hu,by simp,fun i row hi=>by simp at hi⟩
 | sl b off c k n rows cv hn hc hk hm hr ho =>
  subst hn
  by_cases hz:rows.length = 0
  ·obtain rfl:rows = []:=Í hz
   exact ⟨_,c,[],rfl,fun e=>(by cases e),by simp,fun ad _ j u hu=>by simp at hu,by simp,fun i row hi=>by simp at hi⟩
  have hks:k = size:=by
   have h0:rows[0]? = some rows[0]:=by simp
   rw [← hk 0 _ h0]; exact hs _ (Ħ _)
  subst hks
  have hidx:∀ j,j < rows.length * k->∃ row x,rows[j / k]? = some row ∧ row[j % k]? = some x ∧ j / k * k + j % k = j ∧ j % k < k:=by
   intro j hj
   have hk0:0 < k:=Nat.pos_of_ne_zero fun e=>by subst e; simp at hj
   have h1:j / k < rows.length:=(Nat.div_lt_iff_lt_mul hk0).2 hj
   have h2:j % k < k:=Nat.mod_lt _ hk0
   have h3:rows[j / k]? = some rows[j / k]:=by simp [h1]
   have h4:rows[j / k].length = k:=hk _ _ h3
   exact ⟨_,rows[j / k][j % k]'(by omega),h3,by simp,by rw [Ĭ]; exact Nat.div_add_mod j k,h2⟩
  refine ⟨_,c,(List.range (rows.length * k)).map fun j=>cv (j / k) (j % k),rfl,fun e=>(by cases e),by simp,?_,?_,?_⟩
  ·intro ad e j u hu
   cases e
   have hj:j < rows.length * k:=by simpa using (Å.1 hu).1
   have:u = cv (j / k) (j % k):=by rw [Ç,ā hj] at hu; simpa using hu.symm
   subst this
   obtain ⟨row,x,q1,q2,q3,q4⟩:=hidx j hj
   rw [ċ,GU]
   have:=Hp.cell_le l (hm _ _ _ _ q1 q2)
   rwa [Ć,q3] at this
  ·intro u hu
   obtain ⟨j,hj,rfl⟩:=Þ.1 hu
   obtain ⟨row,x,q1,q2,q3,q4⟩:=hidx j (by simpa using hj)
   exact ho _ _ _ _ q1 q2
  ·intro i row hi
   refine ⟨hk i row hi,fun j x hx=>?_⟩
   have hi':=(Å.1 hi).1
   have hj' : j < k:=by rw [← hk i row hi]; exact (Å.1 hx).1
   have hlt:i * k + j < rows.length * k:=by
    have:(i + 1) * k <= rows.length * k:=Ð _ (by omega)
    rw [ê] at this; omega
   refine ⟨?_,cv i j,?_,hr _ _ _ _ hi hx⟩
   ·have:=hr _ _ _ _ hi hx
    have h2:=ho _ _ _ _ hi hx
    generalize cv i j = u at this h2
    cases this <;> first | rfl | simp [Value.oneCell'] at h2
   ·rw [Ç,ā hlt]
    have e1:(i * k + j) / k = i:=by rw [Ĭ,Nat.mul_add_div (by omega)]; simp [Nat.div_eq_of_lt hj']
    have e2:(i * k + j) % k = j:=by rw [Ĭ,Nat.mul_add_mod]; exact İ hj'
    simp [e1,e2]
theorem jE.append {size:Nat} {rows new:List (List D)} {xs ys:List Value} (h1:jE h size rows xs) (h2:jE h size new ys) (hl:xs.length = rows.length * size):jE h size (rows ++ new) (xs ++ ys):=by
 intro i row hi
 by_cases hc:i < rows.length
 ·rw [à hc] at hi
  refine ⟨(h1 i row hi).1,fun j x hx=>⟨((h1 i row hi).2 j x hx).1,?_⟩⟩
  obtain ⟨u,q1,q2⟩:=((h1 i row hi).2 j x hx).2
  exact ⟨u,by rw [à (Å.1 q1).1]; exact q1,q2⟩
 ·rw [å (by omega)] at hi
  refine ⟨(h2 _ row hi).1,fun j x hx=>⟨((h2 _ row hi).2 j x hx).1,?_⟩⟩
  obtain ⟨u,q1,q2⟩:=((h2 _ row hi).2 j x hx).2
  refine ⟨u,?_,q2⟩
  have e:i * size + j = xs.length + ((i - rows.length) * size + j):=by rw [hl,Nat.sub_mul]; have:=Ð size (Nat.le_of_not_lt hc); omega
  rw [e,å (by omega)]
  simpa using q1
theorem NT {base:Nat} {t ty e:TypeId} {i:TypeInfo} {z:Value} (ht:P.underlying t = some (.slice e)) (hi:P.info? e = some i) (hz:i.zero = some z)
  {v:Value} {n:Nat} {xs:List Value} (hown:w.ownsRow base e i.size v n xs) {ad:Addr} {m c:Nat} {news:List Value} (hl:news.length = m * i.size) (hnews:∀ (j:Nat) (u:Value),news[j]? = some u->w.cell? (ad.add j) = some u) (h1:∀ u ∈ news,u.oneCell' = true)
  (h63:n + m <= maxLen) (hbytes:(n + m) * i.bytes <= 140737488355328) {v' : Value} {w' : World} (hr:(Builtin.append_ #[t,t] ty #[v,.slice (some ad) m c]).run P w = .ok v' w')
  (hz' : m = 0->v = .slice none 0 0->v' = .slice none 0 0):∀ g,e9 v' = some g->w.heap.size <= g ∨ e9 v = some g:=by
 intro g hg
 unfold maxLen at h63
 rcases hown.2 with ⟨rfl,rfl⟩ | ⟨g',cap,cur,rfl,hbg,hgg,hnc,hcm,hcs,htake⟩
 ·by_cases hm:m = 0
  ·rw [hz' hm rfl] at hg; cases hg
  ·rw [run_append_nil (P:=P) w t ty e i z ht hi hz ad m c news hl hnews (by omega) (by omega) (by have hb:=hbytes; simp only [Ċ] at hb; omega)] at hr
   cases hr
   simp only [e9,Ä] at hg
   exact .inl (by omega)
 ·by_cases hroom:n + m <= cap
  ·rw [run_append_room (P:=P) w t ty e i ht hi g' n cap cur hgg ad m c news hl hnews h1 hroom (by rw [hl,hcs,← ê]; exact Ð _ hroom)] at hr
   cases hr
   exact .inr hg
  ·rw [run_append_grow (P:=P) w t ty e i z ht hi hz ⟨g',0,none⟩ n cap xs hown.1 (hown.cells (g:=g') rfl) ad m c news hl hnews (by omega) (by omega) (growslice_fits (by omega) hbytes)] at hr
   cases hr
   simp only [e9,Ä] at hg
   exact .inl (by omega)
theorem aPK {x:V} (hx:∀ id ver,x ≠ .own id ver) (hp:∀ id off,x ≠ .ptr id off) (hm:∀ id,x ≠ .mp id):CP bl x = []:=by
 cases x with
 | mp id=>exact absurd rfl (hm id)
 | own id ver=>exact absurd rfl (hx id ver)
 | ptr id off=>exact absurd rfl (hp id off)
 | _=>rfl
theorem aEN:H5 w h hd [] = h:=by funext g; simp [H5]
theorem aSR (r:Rl nt w0 h0 fr bl a w h hd) {x:V} {xv:Value} (hx:R3 h hd bl xv x) {rows:List (List D)} (e:gF bl x = some rows) {size:Nat} (hs:∀ row ∈ rows,row.length = size) :
  ∃ ao c news,xv = .slice ao rows.length c ∧ (ao = none->rows.length = 0 ∧ c = 0) ∧ news.length = rows.length * size ∧ (∀ ad,ao = some ad->∀ (j:Nat) (u:Value),news[j]? = some u->w.cell? (ad.add j) = some u) ∧ (∀ u ∈ news,u.oneCell' = true) ∧ jE h size rows news:=by
 obtain ⟨ao,c,news,rfl,n1,n2,n3,n4,n5⟩:=aC3 (JB r hx e) hs (MN r _)
 refine ⟨ao,c,news,rfl,n1,n2,n3,n4,?_⟩
 by_cases hown:∃ id ver,x = .own id ver
 ·obtain ⟨id,ver,rfl⟩:=hown
  obtain ⟨b,c',hb,hc,hle,h1,he⟩ : ∃ b c',bl id = some b ∧ b.ver? = some c' ∧ ver <= c' ∧ _ ∧ (ver = c'->_ = hd id):=hx
  cases b with
  | box cs=>simp [gF,hb] at e
  | fbox cs=>simp [gF,hb] at e
  | outer cs=>simp [gF,hb] at e
  | mp ek m=>simp [gF,hb] at e
  | fmp ek m=>simp [gF,hb] at e
  | froz v' rows' =>
   have:CP bl (.own id ver) = []:=by simp [CP,GC,hb]
   rw [this,aEN] at n5
   exact n5
  | rows v' e' s rows' =>
   simp only [gF,hb] at e
   split at e
   ·rename_i hv
    subst hv
    cases e
    simp only [aO.ver?,Ä] at hc
    have hh:=he hc
    obtain ⟨q1,q2,⟨xs,q3,q4⟩,q5⟩:=r.blk id _ hb
    intro i row hi
    refine ⟨(n5 i row hi).1,fun j y hy=>?_⟩
    obtain ⟨p1,u,p2,p3⟩:=(n5 i row hi).2 j y hy
    obtain ⟨_,u',p4,p5⟩:=(q4 i row hi).2 j y hy
    have hss:s = size:=(q4 i row hi).1.symm.trans (n5 i row hi).1
    subst hss
    refine ⟨p1,u',?_,p5⟩
    rcases q3.2 with ⟨q6,q7⟩ | ⟨g,oo,cap,cur,q6,_⟩
    ·have:rows = []:=Í q7
     subst this; simp at hi
    ·rw [q6] at hh
     cases hh
     have c1:=n3 _ rfl _ _ p2
     have c2:=q3.cells q6 _ _ p4
     rw [ċ,c2] at c1
     cases c1
     exact p2
   ·cases e
 ·have:CP bl x = []:=aPK (fun id ver he=>hown ⟨id,ver,he⟩) (fun id off he=>by rw [he] at e; simp [gF] at e) (fun id he=>by rw [he] at e; simp [gF] at e)
  rw [this,aEN] at n5
  exact n5
theorem aDV {t ty e:TypeId} {i:TypeInfo} {z:Value} (ht:P.underlying t = some (.slice e)) (hi:P.info? e = some i) (hz:i.zero = some z) (hzs:z.cells.size = i.size) (hsz:0 < i.size) (hby:0 < i.bytes)
  {v0:Value} {n:Nat} {xs:List Value} (hown:nA w e i.size v0 n xs) {ao:Option Addr} {m c:Nat} {news:List Value} (n1:ao = none->m = 0 ∧ c = 0) (n2:news.length = m * i.size) (n3:∀ ad,ao = some ad->∀ (j:Nat) (u:Value),news[j]? = some u->w.cell? (ad.add j) = some u) (n4:∀ u ∈ news,u.oneCell' = true) (hbytes:(n + m) * i.bytes <= 140737488355328) :
  ∃ v' w',(Builtin.append_ #[t,t] ty #[v0,.slice ao m c]).run P w = .ok v' w' ∧ nA w' e i.size v' (n + m) (xs ++ news) ∧ w.grownBy w' v0.ownBlock ∧ ∀ g,e9 v' = some g->w.heap.size <= g ∨ e9 v0 = some g:=by
 have h63:n + m <= maxLen:=by
  have:n + m <= (n + m) * i.bytes:=õ _ hby
  unfold maxLen; omega
 rcases hown.2 with ⟨rfl,rfl⟩ | ⟨g,o,cap,cur,rfl,hg,hnc,hcm,hcs,htake⟩
 ·-- nothing yet
  obtain rfl:xs = []:=Í (by simpa using hown.1)
  have hown':=Ĉ w 0 e i.size
  cases ao with
  | some ad =>
   obtain ⟨v',w',h1,h2,h3,h4⟩:=run_append_own (P:=P) w 0 t ty e i z i.size i.bytes ht hi hz rfl rfl hzs hsz (.slice none 0 0) 0 [] hown' ad m c news n2 (n3 ad rfl) n4 h63 hbytes (Ĩ _)
   exact ⟨v',w',h1,w9 h2,h3,NT ht hi hz hown' n2 (n3 ad rfl) n4 h63 hbytes h1 fun hm hv=>h4.2 ⟨hv,hm⟩⟩
  | none =>
   obtain ⟨rfl,rfl⟩:=n1 rfl
   obtain rfl:news = []:=Í (by simpa using n2)
   exact ⟨_,w,run_append_owned_none (P:=P) (w:=w) 0 t ty e i i.size ht hi (.slice none 0 0) 0 [] hown',by simpa using hown,⟨rfl,rfl,rfl,Õ _,fun _ _ _=>rfl⟩,fun g hg=>.inr hg⟩
 ·cases ao with
  | none =>
   obtain ⟨rfl,rfl⟩:=n1 rfl
   obtain rfl:news = []:=Í (by simpa using n2)
   refine ⟨_,w,?_,by simpa using hown,⟨rfl,rfl,rfl,Õ _,fun _ _ _=>rfl⟩,fun g hg=>.inr hg⟩
   simp [Builtin.append_,Ô ht,sizeOf,typeInfo,hi,Builtin.lenOf,hnc,Builtin.firstCells,Result.andThen,storeCells]
  | some ad =>
   by_cases hroom:n + m <= cap
   ·have hfit:o * i.size + (n * i.size + m * i.size) <= cur.size:=by
     have h1:(o + (n + m)) * i.size <= (o + cap) * i.size:=Ð _ (by omega)
     rw [ê,ê] at h1
     omega
    have hcell:∀ j,j < news.length->(w.cell? ⟨g,o * i.size + n * i.size + j,none⟩).isSome = true:=fun j hj=>by
     have:o * i.size + n * i.size + j < cur.size:=by omega
     simp [World.cell?,hg,this]
    have hrun:=run_append_room_cells (P:=P) w t ty e i ht hi g (o * i.size) n cap ad m c news n2 (n3 ad rfl) n4 hroom hcell (fun j hj=>by simp [World.frozen?,hg])
    have hst:w.setCells g (o * i.size + n * i.size) news = w.setRow g (cur.toList.take (o * i.size + n * i.size) ++ news ++ cur.toList.drop (o * i.size + n * i.size + news.length)).toArray:=by
     have h1:=run_storeCells_cells (P:=P) g (o * i.size + n * i.size) news 0 w (by simpa using hcell) (fun j hj=>by simp [World.frozen?,hg]) n4
     have h2:=Ĥ P g (o * i.size + n * i.size) e news 0 cur w hg (by omega) n4
     simp only [Đ] at h1 h2
     rw [h1] at h2
     simpa using h2
    rw [hst] at hrun
    have hxl:=hown.1
    refine ⟨_,_,hrun,⟨by rw [ß,hown.1,n2,ê],.inr ⟨g,o,cap,_,rfl,Ĺ w g cur _ e _ hg,hroom,hcm,?_,?_⟩⟩,z0 w g _,fun g' hg'=>.inr hg'⟩
    ·simp; omega
    ·apply ē
     intro j
     rw [Ò,Ö]
     have hx:∀ j,j < n * i.size->xs[j]? = cur.toList[o * i.size + j]?:=fun j hj=>by rw [← htake,Ò,Â hj,Ö]
     rw [GL _ _ _ _ (by simp; omega)]
     rw [ê]
     by_cases hj1:j < n * i.size
     ·rw [Â (by omega),Ã (by omega),à (by omega),hx j hj1]
     ·by_cases hj2:j < n * i.size + m * i.size
      ·rw [Â hj2,Â (by omega),å (by omega)]
       congr 1
       omega
      ·rw [Ã hj2,Ď (by simp; omega)]
   ·obtain ⟨v',w',h1,h2,h3⟩:=run_append_arg_grows (P:=P) w t ty e i z i.size i.bytes ht hi hz rfl rfl hzs hsz ⟨g,o * i.size,none⟩ n cap xs hown.1 (fun j u hj=>by rw [ċ]; exact hown.cells rfl j u hj) ad m c news n2 (n3 ad rfl) (by omega) h63 hbytes
    refine ⟨v',w',h1,w9 h2,⟨h3.os,h3.tape,h3.output,h3.size,fun k hk _=>h3.block k hk (by simp)⟩,fun g' hg'=>.inl ?_⟩
    rw [CT h2] at hg'
    exact (h2.lt g' hg').1
theorem aDr (r:Rl nt w0 h0 fr bl a w h hd) {t ty e:TypeId} {i:TypeInfo} {z:Value} (ht:P.underlying t = some (.slice e)) (hi:P.info? e = some i) (hz:i.zero = some z) (hzs:z.cells.size = i.size) (hsz:0 < i.size) (hby:0 < i.bytes)
  {C:Nat->List D->Option D} {site:Nat} {x y:bO} {xv yv:Value} (hx:R3 h hd bl xv (bN fr x)) (hy:R3 h hd bl yv (bN fr y)) {v:V} {wr:List (Nat × Option aO)} (dst:Option Nat) (hdst:GB nt w0 dst)
  (ha:cE C site (bN fr) bl (.append e i.size i.bytes x y) = some (v,wr)) :
  ∃ cv w' hd',(Builtin.append_ #[t,t] ty #[xv,yv]).run P w = .ok cv w' ∧ Rl nt w0 h0 (fB fr dst v) (bQ bl wr) (a.put dst cv) w' h hd':=by
 simp only [cE] at ha
 generalize bN fr x = xx at ha hx
 generalize bN fr y = yy at ha hy
 cases hro:gF bl yy with
 | none=>simp [hro] at ha
 | some new =>
  simp only [hro] at ha
  split at ha
  ·rename_i hall
   have hs:∀ row ∈ new,row.length = i.size:=fun row hr=>by simpa using Ì.1 hall row hr
   obtain ⟨ao,c,news,rfl,n1,n2,n3,n4,n5'⟩:=aSR r hy hro hs
   have hbase:w0.heap.size <= w.heap.size:=r.below.size
   have runO:∀ (v0:Value) (n:Nat) (xs:List Value),nA w e i.size v0 n xs->(n + new.length) * i.bytes <= 140737488355328 ->
     ∃ v' w',(Builtin.append_ #[t,t] ty #[v0,.slice ao new.length c]).run P w = .ok v' w' ∧ nA w' e i.size v' (n + new.length) (xs ++ news) ∧ w.grownBy w' v0.ownBlock ∧ ∀ g,e9 v' = some g->w.heap.size <= g ∨ e9 v0 = some g :=
    fun v0 n xs hown hbytes=>aDV ht hi hz hzs hsz hby hown n1 n2 n3 n4 hbytes
   have run:∀ (base:Nat) (v0:Value) (n:Nat) (xs:List Value),base <= w.heap.size->w.ownsRow base e i.size v0 n xs->(n + new.length) * i.bytes <= 140737488355328 ->
     ∃ v' w',(Builtin.append_ #[t,t] ty #[v0,.slice ao new.length c]).run P w = .ok v' w' ∧ w'.ownsRow base e i.size v' (n + new.length) (xs ++ news) ∧ w.grownBy w' v0.ownBlock ∧ ∀ g,e9 v' = some g->w.heap.size <= g ∨ e9 v0 = some g:=by
    intro base v0 n xs hb hown hbytes
    have h63:n + new.length <= maxLen:=by
     have:n + new.length <= (n + new.length) * i.bytes:=õ _ hby
     unfold maxLen; omega
    cases ao with
    | some ad =>
     obtain ⟨v',w',h1,h2,h3,h4⟩:=run_append_own (P:=P) w base t ty e i z i.size i.bytes ht hi hz rfl rfl hzs hsz v0 n xs hown ad new.length c news n2 (n3 ad rfl) n4 h63 hbytes hb
     exact ⟨v',w',h1,h2,h3,NT ht hi hz hown n2 (n3 ad rfl) n4 h63 hbytes h1 fun hm hv=>h4.2 ⟨hv,hm⟩⟩
    | none =>
     obtain ⟨hn,hc⟩:=n1 rfl
     subst hc
     have hnn:new = []:=Í hn
     subst hnn
     obtain rfl:news = []:=Í (by simpa using n2)
     refine ⟨v0,w,run_append_owned_none (P:=P) (w:=w) base t ty e i i.size ht hi v0 n xs hown,by simpa using hown,⟨rfl,rfl,rfl,Õ _,fun _ _ _=>rfl⟩,fun g hg=>.inr hg⟩
   cases xx with
   | nil =>
    simp only at ha
    split at ha
    ·rename_i hsite
     split at ha
     ·rename_i hb
      cases ha
      obtain rfl:xv = .slice none 0 0:=hx
      obtain ⟨v',w',h1,h2,h3,_⟩:=run w.heap.size (.slice none 0 0) 0 [] (Õ _) (Ĉ w _ e i.size) (by simpa using hb)
      simp only [Ċ,Ī] at h2
      have h63:new.length <= maxLen:=by
       have:new.length <= new.length * i.bytes:=õ _ hby
       unfold maxLen; omega
      obtain ⟨hd',hr⟩:=r.newRows (w':=w') dst hdst site hsite e i.size new v' news hsz h63 h3 h2 n5'
      exact ⟨v',w',hd',h1,hr⟩
     ·cases ha
    ·cases ha
   | own id ver =>
    obtain ⟨b,c',hb,hc,hle,h1,he⟩ : ∃ b c,bl id = some b ∧ b.ver? = some c ∧ ver <= c ∧ xv.oneCell' = true ∧ (ver = c->xv = hd id):=hx
    simp only [hb] at ha
    cases b with
    | rows v' e' s rows =>
     simp only at ha
     split at ha
     ·rename_i hv
      obtain ⟨rfl,rfl,rfl,hbytes⟩:=hv
      cases ha
      simp only [aO.ver?,Ä] at hc
      obtain rfl:=he hc
      obtain ⟨q1,q2,⟨xs,q3,q4⟩,q5⟩:=r.blk id _ hb
      obtain ⟨v',w',g1,g2,g3,g4⟩:=runO (hd id) rows.length xs q3 hbytes
      have h63:(rows ++ new).length <= maxLen:=by
       rw [ß]
       have:rows.length + new.length <= (rows.length + new.length) * i.bytes:=õ _ hby
       unfold maxLen; omega
      obtain ⟨hd',hr⟩:=r.grow (w':=w') dst hdst id ver e' i.size rows (rows ++ new) hb v' (xs ++ news) h63 g3 (by rw [ß]; exact g2) (q4.append n5' q3.1) g4
      exact ⟨v',w',hd',g1,hr⟩
     ·cases ha
    | _=>cases ha
   | _=>cases ha
  ·cases ha
theorem T9 {z:Value} {zs:List V} {row:List D} (h1:aT AQ z.cells.toList = some zs) (h2:aT dOf zs = some row) :
  row.length = z.cells.size ∧ ∀ (j:Nat) (x:D),row[j]? = some x->x.atom = true ∧ a6 h (z.cells.getD j undef) x ∧ (z.cells.getD j undef).oneCell' = true:=by
 obtain ⟨a1,a2⟩:=bP h1
 obtain ⟨b1,b2⟩:=bP h2
 refine ⟨by simp at a1; omega,fun j x hx=>?_⟩
 obtain ⟨y,q1,q2⟩:=bU h2 hx
 obtain ⟨v,q3,q4⟩:=bU h1 q1
 have hv:z.cells.getD j undef = v:=by
  have:z.cells[j]? = some v:=by simpa using q3
  simp [this]
 rw [hv]
 have hr:=UF (h:=h) (hd:=fun _=>undef) (bl:=fun _=>none) q4
 cases y with
 | d y =>
  simp only [dOf] at q2
  split at q2
  ·rename_i hat; cases q2; exact ⟨hat,hr.1.2,hr.2⟩
  ·cases q2
 | nil=>cases q2; rw [show v = _ from hr.1]; exact ⟨rfl,.sl0 none 0 (fun _=>rfl),rfl⟩
 | _=>cases q2
theorem HA {z:Value} {row:List D} {size:Nat} (hz:z.cells.size = size) (hl:row.length = size) (hsz:0 < size) (hr:∀ (j:Nat) (x:D),row[j]? = some x->x.atom = true ∧ a6 h (z.cells.getD j undef) x ∧ (z.cells.getD j undef).oneCell' = true) (n:Nat)
  {xs:List Value} (hxs:∀ j,j < n * size->xs[j]? = some (z.cells.getD (j % size) undef)):jE h size (List.replicate n row) xs:=by
 intro i row' hi
 rw [List.getElem?_replicate] at hi
 split at hi
 ·rename_i hin
  cases hi
  refine ⟨hl,fun j x hx=>?_⟩
  obtain ⟨q1,q2,q3⟩:=hr j x hx
  have hj:j < size:=by rw [← hl]; exact (Å.1 hx).1
  refine ⟨q1,_,hxs _ ?_,?_⟩
  ·have:(i + 1) * size <= n * size:=Ð _ (by omega)
   rw [ê] at this; omega
  ·have:(i * size + j) % size = j:=by rw [Ĭ,Nat.mul_add_mod]; exact İ hj
   rw [this]; exact q2
 ·cases hi
theorem aJF (r:Rl nt w0 h0 fr bl a w h hd) {t e:TypeId} {i:TypeInfo} {z:Value} {zs:List V} {row:List D} (ht:P.underlying t = some (.slice e)) (hi:P.info? e = some i) (hz:i.zero = some z) (hzs:z.cells.size = i.size) (hsz:0 < i.size)
  (h1:aT AQ z.cells.toList = some zs) (h2:aT dOf zs = some row)
  {C:Nat->List D->Option D} {site:Nat} {x y:bO} {xv yv:Value} (hx:R3 h hd bl xv (bN fr x)) (hy:R3 h hd bl yv (bN fr y)) {v:V} {wr:List (Nat × Option aO)} (dst:Option Nat) (hdst:GB nt w0 dst)
  (ha:cE C site (bN fr) bl (.makeSlice e i.size i.bytes row x y) = some (v,wr)) :
  ∃ cv w' hd',(Instr.makeSlice t xv yv).run P w = .ok cv w' ∧ Rl nt w0 h0 (fB fr dst v) (bQ bl wr) (a.put dst cv) w' h hd':=by
 simp only [cE] at ha
 generalize bN fr x = xx at ha hx
 generalize bN fr y = yy at ha hy
 split at ha
 ·rename_i hsite
  split at ha
  ·rename_i k n k' m
   split at ha
   ·rename_i hc
    obtain ⟨c1,c2,c3,c4⟩:=hc
    cases ha
    rw [mC hx,mC hy]
    have hrun:=run_make (P:=P) w t e i z ht hi hz k k' n m c1 c2 c3 c4
    obtain ⟨z1,z2⟩:=T9 (h:=h) h1 h2
    have hlen:(madeCells z.cells (m.toNat * i.size)).toList.take (n.toNat * i.size) = (List.range (n.toNat * i.size)).map fun j=>z.cells.getD (j % i.size) undef:=by
     apply ē
     intro j
     have hle:n.toNat * i.size <= m.toNat * i.size:=Ð _ (by omega)
     rw [Ò]
     by_cases hj:j < n.toNat * i.size
     ·rw [Â hj]
      have hlt:j % i.size < z.cells.size:=by rw [hzs]; exact Nat.mod_lt _ hsz
      have hj' : j < m.toNat * i.size:=by omega
      simp [madeCells,hj,hj',hzs]
      rw [Ľ z.cells (j % i.size) hlt]
      simp [hlt]
     ·rw [Ã hj,Ď (by simp; omega)]
    obtain ⟨hd',hr⟩:=r.newRows (w':=w.alloc (.cells (madeCells z.cells (m.toNat * i.size)) e)) dst hdst site hsite e i.size (List.replicate n.toNat row) (.slice (some ⟨w.heap.size,0,none⟩) n.toNat m.toNat)
     ((List.range (n.toNat * i.size)).map fun j=>z.cells.getD (j % i.size) undef) hsz (by rw [ĥ]; unfold maxLen; omega) (World.grownBy_alloc w _ none)
     (by
      rw [ĥ]
      exact ⟨by simp,.inr ⟨w.heap.size,m.toNat,_,rfl,Õ _,ĭ w _,by omega,by unfold maxLen; omega,size_madeCells _ _,hlen⟩⟩)
     (HA hzs (z1.trans hzs) hsz z2 n.toNat fun j hj=>by simp [hj])
    exact ⟨_,_,hd',hrun,hr⟩
   ·cases ha
  ·cases ha
 ·cases ha
theorem a6.sub {h:Hp} {v:Value} {rows:List (List D)} (r:a6 h v (.sl rows)) {size:Nat} (hs:∀ row ∈ rows,row.length = size) {l m:Nat} (h1:l <= m) (h2:m <= rows.length) :
  ∃ ao n c,v = .slice ao n c ∧ rows.length = n ∧ n <= c ∧ a6 h (.slice (if c = l then ao else ao.map (·.add (l * size))) (m - l) (c - l)) (.sl ((rows.take m).drop l)):=by
 cases r with
 | sl0 a c h0 =>
  obtain ⟨rfl,rfl⟩ : l = 0 ∧ m = 0:=by simp at h2; omega
  refine ⟨a,0,c,rfl,rfl,Ĩ _,?_⟩
  simp only [List.take_nil,List.drop_nil,Nat.sub_zero,Nat.zero_mul]
  split
  ·exact .sl0 a c h0
  ·cases a with
   | none=>exact .sl0 _ c (fun _=>h0 rfl)
   | some ad=>exact .sl0 _ c (fun e=>by cases e)
 | sl b off c k n rows cv hn hc hk hm hr ho =>
  subst hn
  refine ⟨_,_,c,rfl,rfl,hc,?_⟩
  by_cases hml:m = l
  ·subst hml
   have e:(rows.take m).drop m = []:=by simp
   rw [e,Nat.sub_self]
   refine .sl0 _ _ fun he=>?_
   split at he <;> cases he
  ·have hks:k = size:=by
    have h0:rows[0]? = some (rows[0]'(by omega)):=by simp
    rw [← hk 0 _ h0]; exact hs _ (Ħ _)
   subst hks
   have hcl:¬ c = l:=by omega
   rw [Ã hcl,Ù,ċ]
   have hget:∀ (i:Nat) (row:List D),((rows.take m).drop l)[i]? = some row->rows[l + i]? = some row:=by
    intro i row hi
    rw [Ö,Ò] at hi
    split at hi
    ·exact hi
    ·cases hi
   refine .sl b (off + l * k) (c - l) k (m - l) _ (fun i j=>cv (l + i) j) (by simp; omega) (by simp; omega) (fun i row hi=>hk _ _ (hget i row hi)) ?_ (fun i row j x hi hx=>hr _ _ _ _ (hget i row hi) hx) (fun i row j x hi hx=>ho _ _ _ _ (hget i row hi) hx)
   intro i row j x hi hx
   have:=hm _ _ _ _ (hget i row hi) hx
   have e:off + l * k + i * k + j = off + (l + i) * k + j:=by rw [ê]; omega
   rw [e]; exact this
theorem JG {k:IntKind} {q:Int} {y:Nat} {code:BoundsCode} (h1:0 <= q) (h2:q <= y):(Instr.sliceBound (.int k q) y code).run P w = .ok q.toNat w:=by
 simp [Instr.sliceBound,asIntOf,h1,h2]
def bnd (d:Int):Option V->Option Int
 | none=>some d
 | some (.d (.int _ x))=>some x
 | _=>none
theorem wS {n c:Nat} {lov hiv:Option Value} {lo hi:Option V} (hlo:∀ x,lo = some x->∃ u,lov = some u ∧ R3 h hd bl u x) (hhi:∀ x,hi = some x->∃ u,hiv = some u ∧ R3 h hd bl u x) (nlo:lo = none->lov = none) (nhi:hi = none->hiv = none)
  {l m:Int} (e1:bnd n hi = some m) (e2:bnd 0 lo = some l) (h1:0 <= l) (h2:l <= m) (h3:m.toNat <= c) (isS:Bool):(Instr.sliceBounds isS n c lov hiv none).run P w = .ok (l.toNat,m.toNat,c) w:=by
 have H1:(hiv = none ∧ m = n) ∨ ∃ k,hiv = some (.int k m):=by
  cases hi with
  | none=>simp only [bnd,Ä] at e1; exact .inl ⟨nhi rfl,e1.symm⟩
  | some x =>
   obtain ⟨u,hu,hr⟩:=hhi x rfl
   simp only [bnd] at e1
   split at e1
   ·rename_i heq; cases heq
   ·rename_i k q heq
    cases heq
    cases e1
    exact .inr ⟨k,hu.trans (by rw [mC hr])⟩
   ·cases e1
 have H2:(lov = none ∧ l = 0) ∨ ∃ k,lov = some (.int k l):=by
  cases lo with
  | none=>simp only [bnd,Ä] at e2; exact .inl ⟨nlo rfl,e2.symm⟩
  | some x =>
   obtain ⟨u,hu,hr⟩:=hlo x rfl
   simp only [bnd] at e2
   split at e2
   ·rename_i heq; cases heq
   ·rename_i k q heq
    cases heq
    cases e2
    exact .inr ⟨k,hu.trans (by rw [mC hr])⟩
   ·cases e2
 rcases H1 with ⟨rfl,rfl⟩ | ⟨k1,rfl⟩ <;> rcases H2 with ⟨rfl,rfl⟩ | ⟨k2,rfl⟩
 ·simp [Instr.sliceBounds]
 ·have:=JG (P:=P) (w:=w) (k:=k2) (q:=l) (y:=n) (code:=.sliceB) h1 (by omega)
  simp [Instr.sliceBounds,this]
 ·have:=fun code=>JG (P:=P) (w:=w) (k:=k1) (q:=m) (y:=c) (code:=code) (by omega) (by omega)
  simp [Instr.sliceBounds,this]
 ·have g1:=fun code=>JG (P:=P) (w:=w) (k:=k1) (q:=m) (y:=c) (code:=code) (by omega) (by omega)
  have g2:=JG (P:=P) (w:=w) (k:=k2) (q:=l) (y:=m.toNat) (code:=.sliceB) h1 (by omega)
  simp [Instr.sliceBounds,g1,g2]
theorem P9 (bl:Nat->Option aO) (size:Nat) (x:V) (lo hi:Option V):zR bl size x lo hi =
  (match x,lo,hi with
  | .own id ver,none,some (.d (.int _ h))=>match bl id with
   | some (.rows v e size rows)=>if ver = v ∧ 0 <= h ∧ h.toNat <= rows.length then some (.own id (ver + 1),[(id,some (.rows (ver + 1) e size (rows.take h.toNat)))]) else none
   | _=>none
  | x,lo,hi=>match gF bl x with
   | none=>none
   | some rows=>match bnd rows.length hi,bnd 0 lo with
    | some h,some l=>if 0 <= l ∧ l <= h ∧ h.toNat <= rows.length ∧ sized size rows = true then some (.d (.sl ((rows.take h.toNat).drop l.toNat)),CP bl x) else none
    | _,_=>none):=rfl
end
end Vm
end
section
namespace Vm
open Go.RowKit
section
variable {P:Program} {nt:Nat} {w0:cF} {w:World} {h0 h:Hp} {fr:Nat->V} {bl:Nat->Option aO} {a:Act} {hd:Nat->Value}
theorem TW (r:Rl nt w0 h0 fr bl a w h hd) (dst:Option Nat) (hdst:GB nt w0 dst) (site:Nat) (hs:bl site = none) (e:TypeId) (v:Value) (cs:List V) (hl:v.cells.size = cs.length)
  (hr:∀ j x,cs[j]? = some x->R1 h hd bl (v.cells.getD j undef) x ∧ (v.cells.getD j undef).oneCell' = true) :
  ∃ cv w' hd',(do pure (.pointer (some (← newVar e v))):Sem Value).run P w = .ok cv w' ∧ Rl nt w0 h0 (fB fr dst (.ptr site 0)) (bQ bl [(site,some (.box cs))]) (a.put dst cv) w' h hd':=by
 obtain ⟨hd',h'⟩:=r.newBox dst hdst site hs v.cells e cs hl hr
 exact ⟨_,_,hd',by simp [newVar,newRow],h'⟩
theorem SK {id:Nat}:∀ {l:List (Nat × Option aO)},DO id l = true->∀ p ∈ l,p.1 ≠ id
 | [],_,p,hp=>by simp at hp
 | (i,b) :: l,h,p,hp=>by
  simp only [DO] at h
  split at h
  ·cases h
  ·rename_i hi
   rcases Û.1 hp with rfl | hp
   ·exact hi
   ·exact SK h p hp
theorem XT (r:Rl nt w0 h0 fr bl a w h hd) {t:TypeId} {i:TypeInfo} (hi:P.info? t = some i) {xv vv:Value} {id ver ii off:Nat} (hx:R3 h hd bl xv (.orow id ver ii off)) {e sz:Nat} {rows:List (List D)} (hb:bl id = some (.rows ver e sz rows))
  {row ds:List D} (hrow:rows[ii]? = some row) (hcellsR:∀ (j:Nat) (d:D),ds[j]? = some d->d.atom = true ∧ a6 h (vv.cells.getD j undef) d ∧ (vv.cells.getD j undef).oneCell' = true) (hcl:vv.cells.size = ds.length) (hl:ds.length = i.size) (ho:off + i.size <= row.length) (dst:Option Nat) (hdst:GB nt w0 dst) (cv:Value) :
  ∃ w',(Instr.storeAt t xv vv).run P w = .ok () w' ∧ w.grownBy w' (hd id).ownBlock ∧ Rl nt w0 h0 (fB fr dst .any) (bQ bl [(id,some (.rows ver e sz (rows.set ii (iT row off ds))))]) (a.put dst cv) w' h hd:=by
 obtain ⟨b,c,hb',hc,hle,h1,he⟩ : ∃ b c,bl id = some b ∧ b.ver? = some c ∧ ver <= c ∧ xv.oneCell' = true ∧ ∀ e size rows,b = .rows ver e size rows->∃ g b n c,hd id = .slice (some ⟨g,b,none⟩) n c ∧ xv = .pointer (some ⟨g,b + (ii * size + off),none⟩):=hx
 rw [hb] at hb'
 cases hb'
 obtain ⟨g,bs,n,c',hg,rfl⟩:=he e sz rows rfl
 obtain ⟨q1,q2,⟨xs,q3,q4⟩,q5⟩:=r.blk id _ hb
 rcases q3.2 with ⟨q6,_⟩ | ⟨g',oo,cap,cur,q6,q8,q9,q10,q11,q12⟩
 ·rw [hg] at q6; cases q6
 rw [hg] at q6
 cases q6
 obtain ⟨p1,p2⟩:=q4 ii row hrow
 have hii:ii < rows.length:=(Å.1 hrow).1
 have hall:∀ u ∈ vv.cells.toList,u.oneCell' = true:=by
  intro u hu
  obtain ⟨j,hj,rfl⟩:=ě.1 hu
  have hj' : j < vv.cells.size:=by simpa using hj
  have:=(hcellsR j (ds[j]'(by omega)) (by simp)).2.2
  simpa [hj'] using this
 have hfit:ii * sz + off + ds.length <= rows.length * sz:=by
  have:(ii + 1) * sz <= rows.length * sz:=Ð _ (by omega)
  rw [ê] at this; omega
 have hrc0:oo * sz + rows.length * sz <= cur.size:=by
  have:(oo + rows.length) * sz <= (oo + c') * sz:=Ð _ (by omega)
  rw [ê] at this; omega
 generalize hB:oo * sz = B at q12 hrc0 hg q11 ⊢
 have hfit2:B + (ii * sz + off) + ds.length <= cur.size:=by omega
 have hrun:=Ĥ P g (B + (ii * sz + off)) e vv.cells.toList 0 cur w q8 (by simp; omega) hall
 simp only [Đ] at hrun
 have hfull:(Instr.storeAt t (.pointer (some ⟨g,B + (ii * sz + off),none⟩)) vv).run P w = .ok () (w.setRow g (cur.toList.take (B + (ii * sz + off)) ++ vv.cells.toList ++ cur.toList.drop (B + (ii * sz + off) + vv.cells.toList.length)).toArray):=by
  have hsz:vv.cells.size = i.size:=by omega
  simp [Instr.storeAt,Instr.sureAddr,storeVar,gR hi,hsz,Result.andThen,hrun]
 have hlv:vv.cells.toList.length = ds.length:=by simpa using hcl
 have hget0:∀ j,(cur.toList.take (B + (ii * sz + off)) ++ vv.cells.toList ++ cur.toList.drop (B + (ii * sz + off) + vv.cells.toList.length))[j]? = if B + (ii * sz + off) <= j ∧ j < B + (ii * sz + off) + ds.length then vv.cells.toList[j - (B + (ii * sz + off))]? else cur.toList[j]?:=fun j=>by
  rw [GL _ _ _ _ (by simp; omega),hlv]
 have hget:∀ j,(((cur.toList.take (B + (ii * sz + off)) ++ vv.cells.toList ++ cur.toList.drop (B + (ii * sz + off) + vv.cells.toList.length))).drop B)[j]? = if ii * sz + off <= j ∧ j < ii * sz + off + ds.length then vv.cells.toList[j - (ii * sz + off)]? else cur.toList[B + j]?:=fun j=>by
  rw [Ö,hget0]
  have e:B + j - (B + (ii * sz + off)) = j - (ii * sz + off):=by omega
  rw [e]
  by_cases hc:ii * sz + off <= j ∧ j < ii * sz + off + ds.length
  ·rw [Â hc,Â (by omega)]
  ·rw [Ã hc,Ã (by omega)]
 have hgr:=z0 w g (cur.toList.take (B + (ii * sz + off)) ++ vv.cells.toList ++ cur.toList.drop (B + (ii * sz + off) + vv.cells.toList.length)).toArray
 have h':=r.setRows (w':=w.setRow g (cur.toList.take (B + (ii * sz + off)) ++ vv.cells.toList ++ cur.toList.drop (B + (ii * sz + off) + vv.cells.toList.length)).toArray) dst hdst cv id ver e sz rows (rows.set ii (iT row off ds)) hb
  (((cur.toList.take (B + (ii * sz + off)) ++ vv.cells.toList ++ cur.toList.drop (B + (ii * sz + off) + vv.cells.toList.length)).drop B).take (rows.length * sz)) (by simp) (by rw [hg]; exact z0 w g _)
  (by
   rw [hg,ĵ]
   refine ⟨by simp; omega,.inr ⟨g,oo,_,_,by rw [hB],Ĺ w g cur _ e _ q8,q9,q10,?_,by rw [hB]⟩⟩
   simp; omega)
  (by
   intro i' row' hi'
   rw [Ę] at hi'
   have hxs:∀ (j:Nat),j < rows.length * sz->xs[j]? = cur.toList[B + j]?:=fun j hj=>by rw [← q12,Ò,Â hj,Ö]
   split at hi'
   ·rename_i heq
    subst heq
    simp only [hii,Ë,Ä] at hi'
    subst hi'
    refine ⟨by rw [F9]; exact p1,fun j x hx=>?_⟩
    rw [F0 row off ds j (by omega)] at hx
    have hjs:j < sz:=by
     rw [← p1]
     split at hx
     ·omega
     ·exact (Å.1 hx).1
    have hlt:ii * sz + j < rows.length * sz:=by
     have:(ii + 1) * sz <= rows.length * sz:=Ð _ (by omega)
     rw [ê] at this; omega
    split at hx
    ·rename_i hj
     obtain ⟨c1,c2,c3⟩:=hcellsR _ _ hx
     have hjd:j - off < vv.cells.size:=by omega
     refine ⟨c1,vv.cells.getD (j - off) undef,?_,c2⟩
     rw [Ò,Â hlt,hget,Â (by omega)]
     have:ii * sz + j - (ii * sz + off) = j - off:=by omega
     rw [this]
     simp [hjd]
    ·rename_i hj
     obtain ⟨c1,u,c2,c3⟩:=p2 j x hx
     refine ⟨c1,u,?_,c3⟩
     rw [Ò,Â hlt,hget,Ã (by omega),← hxs _ hlt]
     exact c2
   ·rename_i hne
    obtain ⟨c0,c1⟩:=q4 i' row' hi'
    refine ⟨c0,fun j x hx=>?_⟩
    obtain ⟨c2,u,c3,c4⟩:=c1 j x hx
    refine ⟨c2,u,?_,c4⟩
    have hi'' : i' < rows.length:=(Å.1 hi').1
    have hjs:j < sz:=by rw [← c0]; exact (Å.1 hx).1
    have hlt:i' * sz + j < rows.length * sz:=by
     have:(i' + 1) * sz <= rows.length * sz:=Ð _ (by omega)
     rw [ê] at this; omega
    rw [Ò,Â hlt,hget,Ã ?_,← hxs _ hlt]
    ·exact c3
    ·rintro ⟨g1,g2⟩
     rcases Nat.lt_or_gt_of_ne hne with hlt' | hlt'
     ·have:(ii + 1) * sz <= i' * sz:=Ð _ (by omega)
      rw [ê] at this; omega
     ·have:(i' + 1) * sz <= ii * sz:=Ð _ (by omega)
      rw [ê] at this; omega)
 exact ⟨_,hfull,by rw [hg]; exact hgr,h'⟩
theorem aAb (r:Rl nt w0 h0 fr bl a w h hd) {t:TypeId} {i:TypeInfo} (hi:P.info? t = some i) {xv vv:Value} {id ver ii off:Nat} {y:V} (hx:R3 h hd bl xv (.orow id ver ii off)) (hy:R3 h hd bl vv y) {e sz:Nat} {rows:List (List D)} (hb:bl id = some (.rows ver e sz rows))
  {row ds:List D} (hrow:rows[ii]? = some row) (hds:aT (iQ bl) y.cells = some ds) (hni:DO id (yG bl y) = true) (hl:ds.length = i.size) (ho:off + i.size <= row.length) (dst:Option Nat) (hdst:GB nt w0 dst) (cv:Value) :
  ∃ w' h' hd',(Instr.storeAt t xv vv).run P w = .ok () w' ∧ Rl nt w0 h0 (fB fr dst .any) (bQ bl ((id,some (.rows ver e sz (rows.set ii (iT row off ds)))) :: yG bl y)) (a.put dst cv) w' h' hd':=by
 have hk:y.known = true:=by
  cases y <;> first | rfl | (simp [V.cells,aT,iQ,nF] at hds)
 have hb' : bQ bl (yG bl y) id = some (.rows ver e sz rows):=by
  have hn:=SK hni
  unfold bQ
  rcases GG (yG bl y) (bl id) id with q | ⟨p,q1,q2,q3⟩
  ·rw [q]; exact hb
  ·exact absurd q2.symm (fun e=>hn p q1 (by simp [e]))
 obtain ⟨b,c,g1,g2,g3,g4,g5⟩ : ∃ b c,bl id = some b ∧ b.ver? = some c ∧ ver <= c ∧ xv.oneCell' = true ∧ ∀ e size rows,b = .rows ver e size rows->∃ g b n c,hd id = .slice (some ⟨g,b,none⟩) n c ∧ xv = .pointer (some ⟨g,b + (ii * size + off),none⟩):=hx
 rw [hb] at g1
 cases g1
 have hx' : R3 (H5 w h hd (yG bl y)) hd (bQ bl (yG bl y)) xv (.orow id ver ii off):=⟨_,c,hb',g2,g3,g4,g5⟩
 obtain ⟨w',q1,_,q2⟩:=XT (r.freeze _ (aCo y)) hi hx' hb' hrow (by
  intro j d hj
  obtain ⟨z,z1,z2⟩:=bU hds hj
  obtain ⟨c1,c2⟩:=FW hy hk
  have:=nB r (yG bl y) (c2 j z z1).1 z2 (fun p hp=>by
   cases y with
   | agg cs=>exact Î.2 ⟨z,Ê z1,hp⟩
   | _ =>
    have hz:z = _:=(í.1 (Ê z1))
    rw [hz] at hp; exact hp)
  exact ⟨this.2,this.1,(c2 j z z1).2⟩) ((FW hy hk).1.trans (bP hds).1) hl ho dst hdst cv
 exact ⟨w',_,_,q1,by rw [WU]; exact q2⟩
theorem ZO {t:TypeId} {i:TypeInfo} {b:Bool} (hb:lZ P t = some b) (hi:P.info? t = some i) {arr:Array Value} {cs:List V} {off:Nat} (hl:arr.size = cs.length) (hr:∀ j x,cs[j]? = some x->R1 h hd bl (arr.getD j undef) x ∧ (arr.getD j undef).oneCell' = true) {v:V} {wr:List (Nat × Option aO)}
  (ha:(if b then (if off + i.size <= cs.length then some (V.agg ((cs.drop off).take i.size),([]:List (Nat × Option aO))) else none) else cs[off]?.map fun v=>(v,[])) = some (v,wr)) :
  wr = [] ∧ ∃ cv,(part t arr off).run P w = .ok cv w ∧ R3 h hd bl cv v:=by
 unfold part
 rw [î,P0 hb]
 cases b with
 | true =>
  simp only [Ë] at ha
  split at ha
  ·rename_i hlen
   cases ha
   refine ⟨rfl,.agg (arr.extract off (off + i.size)),by simp [Result.andThen,gR hi],_,rfl,by simp; omega,fun j x hx=>?_⟩
   rw [Ò] at hx
   split at hx
   ·rename_i hj
    rw [Ö] at hx
    have hlt:off + j < arr.size:=by rw [hl]; exact (Å.1 hx).1
    have e:(arr.extract off (off + i.size)).getD j undef = arr.getD (off + j) undef:=by
     simp only [É,Array.getElem?_extract]
     rw [Â (by omega)]
    rw [e]; exact hr _ _ hx
   ·cases hx
  ·cases ha
 | false =>
  simp only [Æ,È,Á] at ha
  obtain ⟨y,hy,ha⟩:=ha
  cases ha
  have hlt:off < arr.size:=by rw [hl]; exact (Å.1 hy).1
  refine ⟨rfl,arr[off],by simp [Result.andThen,hlt],R3.of2 (R2.of1 ?_)⟩
  have:=(hr _ _ hy).1
  simpa [hlt] using this
theorem aLP {t e ep:TypeId} {n:Nat} {i:TypeInfo} (ht:P.underlying t = some (.array n e)) (he:P.underlying e = some (.pointer ep)) (hi:P.info? e = some i) (hz:i.size = 1) {C:Nat->List D->Option D} {site:Nat} {fr:Nat->V} {x j:bO} {xv jv:Value}
  (hx:R3 h hd bl xv (bN fr x)) (hj:R3 h hd bl jv (bN fr j)) {v:V} {wr:List (Nat × Option aO)} (ha:cE C site (bN fr) bl (.idxA n x j) = some (v,wr)):wr = [] ∧ ∃ cv,(Instr.index t xv jv).run P w = .ok cv w ∧ R3 h hd bl cv v:=by
 simp only [cE] at ha
 generalize bN fr x = y at ha hx
 generalize bN fr j = z at ha hj
 split at ha
 ·rename_i k q
  split at ha
  ·rename_i hc
   split at ha
   ·rename_i cs
    split at ha
    ·rename_i hl
     obtain ⟨arr,rfl,h1,h2⟩:=NK hx
     have hb:lZ P e = some false:=by
      unfold lZ
      rw [he]
     obtain ⟨rfl,cv,q1,q2⟩:=ZO (P:=P) (w:=w) (off:=q.toNat) hb hi h1 h2 ha
     refine ⟨rfl,cv,?_,q2⟩
     rw [mC hj]
     simp [Instr.index,asIntOf,Ô ht,hc.1,hc.2,gR hi,hz,Result.andThen,q1]
    ·cases ha
   ·cases ha
  ·cases ha
 ·cases ha
theorem aEr (place:Nat->Option (Nat × Nat)):∀ (ps:List (Nat × Value)) (qs:List (Nat × Nat × V)) (arr:Array Value) (cs cs' : List V),arr.size = cs.length ->
  (∀ j x,cs[j]? = some x->R1 h hd bl (arr.getD j undef) x ∧ (arr.getD j undef).oneCell' = true)->ps.length = qs.length ->
  (∀ (j:Nat) (p:Nat × Value) (q:Nat × Nat × V),ps[j]? = some p->qs[j]? = some q->place p.1 = some (q.1,q.2.1) ∧ R3 h hd bl p.2 q.2.2)->IE cs qs = some cs' ->
  ∃ arr',Instr.fill place arr ps = some arr' ∧ arr'.size = cs'.length ∧ ∀ j x,cs'[j]? = some x->R1 h hd bl (arr'.getD j undef) x ∧ (arr'.getD j undef).oneCell' = true:=by
 intro ps
 induction ps with
 | nil =>
  intro qs arr cs cs' hl hr hlen hp e
  obtain rfl:qs = []:=Í (by simpa using hlen.symm)
  simp only [IE,Ä] at e
  subst e
  exact ⟨arr,rfl,hl,hr⟩
 | cons p ps ih =>
  intro qs arr cs cs' hl hr hlen hp e
  match qs,hlen with
  | (off,size,v) :: qs,hlen =>
   obtain ⟨h1,h2⟩:=hp 0 p _ rfl rfl
   simp only [IE] at e
   split at e
   ·rename_i hc
    obtain ⟨c1,c2,c3⟩:=hc
    have c1:v.cells.length = size:=c1
    have c2:off + size <= cs.length:=c2
    have c3:v.known = true:=c3
    have h2:R3 h hd bl p.2 v:=h2
    ·obtain ⟨d1,d2⟩:=FW h2 c3
     have hsz:p.2.cells.size = size:=by omega
     -- the cells behind the fold
     have hfold:∀ (l:List Value) (n:Nat) (b:Array Value),((l.zipIdx n).foldl (fun cs (x:Value × Nat)=>cs.setIfInBounds (off + x.2) x.1) b).size = b.size ∧ ∀ j,((l.zipIdx n).foldl (fun cs (x:Value × Nat)=>cs.setIfInBounds (off + x.2) x.1) b)[j]? = if off + n <= j ∧ j < off + n + l.length ∧ j < b.size then l[j - (off + n)]? else b[j]?:=by
      intro l
      induction l with
      | nil=>intro n b; refine ⟨rfl,fun j=>?_⟩; rw [Ã (by simp; omega)]; rfl
      | cons u l ihl =>
       intro n b
       simp only [List.zipIdx_cons,þ]
       obtain ⟨s1,s2⟩:=ihl (n + 1) (b.setIfInBounds (off + n) u)
       refine ⟨by simpa using s1,fun j=>?_⟩
       rw [s2]
       by_cases hj:j = off + n
       ·subst hj
        rw [Ã (by omega)]
        by_cases hb:off + n < b.size
        ·rw [Â ⟨by omega,by simp,hb⟩]; simp [hb]
        ·rw [Ã (by omega)]; simp [hb]
       ·have e1:(b.setIfInBounds (off + n) u)[j]? = b[j]?:=Ĕ (by omega)
        rw [e1]
        simp only [į,Ø]
        by_cases hq:off + (n + 1) <= j ∧ j < off + (n + 1) + l.length ∧ j < b.size
        ·rw [Â hq,Â (by omega)]
         have:j - (off + n) = (j - (off + (n + 1))) + 1:=by omega
         rw [this,é]
        ·rw [Ã hq,Ã (by omega)]
     obtain ⟨f1,f2⟩:=hfold p.2.cells.toList 0 arr
     simp only [Đ] at f2
     obtain ⟨arr',g1,g2,g3⟩:=ih qs ((p.2.cells.toList.zipIdx 0).foldl (fun cs (x:Value × Nat)=>cs.setIfInBounds (off + x.2) x.1) arr) (iT cs off v.cells) cs' (by rw [f1,F9,hl]) (by
       intro j x hx
       rw [F0 cs off v.cells j (by omega)] at hx
       have hgd:((p.2.cells.toList.zipIdx 0).foldl (fun cs (x:Value × Nat)=>cs.setIfInBounds (off + x.2) x.1) arr).getD j undef = if off <= j ∧ j < off + v.cells.length then p.2.cells.getD (j - off) undef else arr.getD j undef:=by
        simp only [É]
        rw [f2]
        by_cases hq:off <= j ∧ j < off + v.cells.length
        ·rw [Â (by simp; omega),Â hq]; simp
        ·rw [Ã (by simp; omega),Ã hq]
       rw [hgd]
       split at hx
       ·rename_i hq; rw [Â hq]; exact d2 _ _ hx
       ·rename_i hq; rw [Ã hq]; exact hr _ _ hx) (by simpa using hlen) (fun j p' q' hp' hq'=>hp (j + 1) p' q' (by simpa using hp') (by simpa using hq')) e
     refine ⟨arr',?_,g2,g3⟩
     simp only [Instr.fill,h1]
     rw [Ã (by simp; omega)]
     have:p.2.cells.zipIdx.foldl (fun cs (x:Value × Nat)=>cs.setIfInBounds (off + x.2) x.1) arr = (p.2.cells.toList.zipIdx 0).foldl (fun cs (x:Value × Nat)=>cs.setIfInBounds (off + x.2) x.1) arr:=by
      rw [← Array.foldl_toList]; simp
     rw [this]
     exact g1
   ·cases e
theorem Z5 {fs:Array Field} (hf:fs.toList.all (fun f=>(P.info? f.type).isSome) = true):(fs.mapM fun f=>(Prod.mk f.offset <$> sizeOf f.type:Sem (Nat × Nat))).run P w = .ok (fs.map fun f=>(f.offset,P.cellsOf f.type)) w:=by
 have key:∀ (l:List Field),l.all (fun f=>(P.info? f.type).isSome) = true->(l.mapM fun f=>(Prod.mk f.offset <$> sizeOf f.type:Sem (Nat × Nat))).run P w = .ok (l.map fun f=>(f.offset,P.cellsOf f.type)) w:=by
  intro l
  induction l with
  | nil=>intro _; rfl
  | cons f l ih =>
   intro h
   simp only [ħ,ë] at h
   obtain ⟨i,hi⟩:=ü.1 h.1
   simp [List.mapM_cons,gR hi,ih h.2,Program.cellsOf,hi]
 obtain ⟨l⟩:=fs
 have:=key l hf
 simp only [ĉ,ġ,this,ñ,List.map_toArray]
theorem aGD (r:Rl nt w0 h0 fr bl a w h hd) {t:TypeId} {i:TypeInfo} {z:Value} {fs:Array Field} {zs:List V} (hi:P.info? t = some i) (hu:P.underlying t = some (.struct fs)) (hz:i.zero = some z) (hzs:aT AQ z.cells.toList = some zs)
  (hf:fs.toList.all (fun f=>(P.info? f.type).isSome) = true) {ps:List (Nat × Operand)} {qs:List (Nat × Nat × bO)}
  (hp:aT (fun (p:Nat × Operand)=>match fs[p.1]?,iA p.2 with
     | some f,some x=>(P.info? f.type).map fun j=>(f.offset,j.size,x)
     | _,_=>none) ps = some qs) {cs:List V} (ha:IE zs (qs.map fun (o,s,x)=>(o,s,bN fr x)) = some cs) :
  ∃ cv,(Instr.build t (ps.map fun (i,x)=>(i,a.eval x)).toArray).run P w = .ok cv w ∧ R3 h hd bl cv (.agg cs):=by
 obtain ⟨z1,z2⟩:=D2 (h:=h) (hd:=hd) (bl:=bl) hzs
 obtain ⟨m1,m2⟩:=bP hp
 obtain ⟨arr',g1,g2,g3⟩:=aEr (h:=h) (hd:=hd) (bl:=bl) (fun i=>(fs.map fun f=>(f.offset,P.cellsOf f.type))[i]?) (ps.map fun x=>(x.1,a.eval x.2)) (qs.map fun (o,s,x)=>(o,s,bN fr x)) z.cells zs cs z1 z2 (by simpa using m1) (by
  intro j p q hp' hq'
  rw [Ç,Á] at hp' hq'
  obtain ⟨p0,p1,rfl⟩:=hp'
  obtain ⟨q0,q1,rfl⟩:=hq'
  obtain ⟨y,y1,y2⟩:=m2 j p0 p1
  rw [q1] at y1
  cases y1
  split at y2
  ·rename_i f x hfx hx
   cases hj:P.info? f.type with
   | none=>simp [hj] at y2
   | some k =>
    simp only [hj,Ù,Ä] at y2
    subst y2
    refine ⟨?_,bC r.globs r.frame hx⟩
    simp [hfx,Program.cellsOf,hj]
  ·cases y2) ha
 refine ⟨.agg arr',?_,arr',rfl,g2,g3⟩
 simp only [Array.getElem?_map] at g1
 simp [Instr.build,zeroValue,nN hi,hz,Ô hu,Result.andThen,Z5 hf,g1]
theorem aD0 (r:Rl nt w0 h0 fr bl a w h hd) {t e:TypeId} {n:Nat} {i ei:TypeInfo} {z:Value} {zs:List V} (hi:P.info? t = some i) (hu:P.underlying t = some (.array n e)) (hz:i.zero = some z) (he:P.info? e = some ei) (hzs:aT AQ z.cells.toList = some zs)
  {ps:List (Nat × Operand)} {qs:List (Nat × Nat × bO)}
  (hp:aT (fun (p:Nat × Operand)=>(iA p.2).map fun x=>(p.1 * ei.size,ei.size,x)) ps = some qs) {cs:List V} (ha:IE zs (qs.map fun (o,s,x)=>(o,s,bN fr x)) = some cs) :
  ∃ cv,(Instr.build t (ps.map fun (i,x)=>(i,a.eval x)).toArray).run P w = .ok cv w ∧ R3 h hd bl cv (.agg cs):=by
 obtain ⟨z1,z2⟩:=D2 (h:=h) (hd:=hd) (bl:=bl) hzs
 obtain ⟨m1,m2⟩:=bP hp
 obtain ⟨arr',g1,g2,g3⟩:=aEr (h:=h) (hd:=hd) (bl:=bl) (fun i=>some (i * ei.size,ei.size)) (ps.map fun x=>(x.1,a.eval x.2)) (qs.map fun (o,s,x)=>(o,s,bN fr x)) z.cells zs cs z1 z2 (by simpa using m1) (by
  intro j p q hp' hq'
  rw [Ç,Á] at hp' hq'
  obtain ⟨p0,p1,rfl⟩:=hp'
  obtain ⟨q0,q1,rfl⟩:=hq'
  obtain ⟨y,y1,y2⟩:=m2 j p0 p1
  rw [q1] at y1
  cases y1
  rw [Á] at y2
  obtain ⟨x,hx,rfl⟩:=y2
  exact ⟨rfl,bC r.globs r.frame hx⟩) ha
 refine ⟨.agg arr',?_,arr',rfl,g2,g3⟩
 simp [Instr.build,zeroValue,nN hi,hz,Ô hu,Result.andThen,gR he,g1]
theorem aAt (size:Nat) (hsz:0 < size):∀ (ps:List (Nat × Value)) (qs:List (Nat × V)) (arr:Array Value) (rows rows' : List (List D)) {bl:Nat->Option aO} {hh:Hp} (R:Value->V->Prop) (hR:∀ (v:Value) (x:V) (row:List D),R v x->aT (iQ bl) x.cells = some row->v.cells.size = row.length ∧ ∀ (j:Nat) (d:D),row[j]? = some d->d.atom = true ∧ a6 hh (v.cells.getD j undef) d ∧ (v.cells.getD j undef).oneCell' = true),
  arr.size = rows.length * size->jE hh size rows arr.toList->(∀ u ∈ arr.toList,u.oneCell' = true)->ps.length = qs.length ->
  (∀ (j:Nat) (p:Nat × Value) (q:Nat × V),ps[j]? = some p->qs[j]? = some q->p.1 = q.1 ∧ R p.2 q.2)->lU bl size rows qs = some rows' ->
  ∃ arr',Instr.fill (fun i=>some (i * size,size)) arr ps = some arr' ∧ arr'.size = rows'.length * size ∧ rows'.length = rows.length ∧ jE hh size rows' arr'.toList ∧ ∀ u ∈ arr'.toList,u.oneCell' = true:=by
 intro ps
 induction ps with
 | nil =>
  intro qs arr rows rows' bl hh R hR hl hr ho hlen hp e
  obtain rfl:qs = []:=Í (by simpa using hlen.symm)
  simp only [lU,Ä] at e
  subst e
  exact ⟨arr,rfl,hl,rfl,hr,ho⟩
 | cons p ps ih =>
  intro qs arr rows rows' bl hh R hR hl hr ho hlen hp e
  match qs,hlen with
  | (i,v) :: qs,hlen =>
   obtain ⟨h1,h2⟩:=hp 0 p _ rfl rfl
   simp only [lU] at e
   cases hm:aT (iQ bl) v.cells with
   | none=>simp [hm] at e
   | some row =>
    simp only [hm] at e
    split at e
    ·rename_i hc
     obtain ⟨c1,c2⟩:=hc
     obtain ⟨d1,d2⟩:=hR _ _ _ h2 hm
     have hpi:p.1 = i:=h1
     have hfitN:i * size + size <= arr.size:=by
      have:(i + 1) * size <= rows.length * size:=Ð _ (by omega)
      rw [ê] at this; omega
     have hfold:∀ (l:List Value) (n:Nat) (b:Array Value),((l.zipIdx n).foldl (fun cs (x:Value × Nat)=>cs.setIfInBounds (i * size + x.2) x.1) b).size = b.size ∧ ∀ j,((l.zipIdx n).foldl (fun cs (x:Value × Nat)=>cs.setIfInBounds (i * size + x.2) x.1) b)[j]? = if i * size + n <= j ∧ j < i * size + n + l.length ∧ j < b.size then l[j - (i * size + n)]? else b[j]?:=by
      intro l
      induction l with
      | nil=>intro n b; refine ⟨rfl,fun j=>?_⟩; rw [Ã (by simp; omega)]; rfl
      | cons u l ihl =>
       intro n b
       simp only [List.zipIdx_cons,þ]
       obtain ⟨s1,s2⟩:=ihl (n + 1) (b.setIfInBounds (i * size + n) u)
       refine ⟨by simpa using s1,fun j=>?_⟩
       rw [s2]
       by_cases hj:j = i * size + n
       ·subst hj
        rw [Ã (by omega)]
        by_cases hb:i * size + n < b.size
        ·rw [Â ⟨by omega,by simp,hb⟩]; simp [hb]
        ·rw [Ã (by omega)]; simp [hb]
       ·have e1:(b.setIfInBounds (i * size + n) u)[j]? = b[j]?:=Ĕ (by omega)
        rw [e1]
        simp only [į,Ø]
        by_cases hq:i * size + (n + 1) <= j ∧ j < i * size + (n + 1) + l.length ∧ j < b.size
        ·rw [Â hq,Â (by omega)]
         have:j - (i * size + n) = (j - (i * size + (n + 1))) + 1:=by omega
         rw [this,é]
        ·rw [Ã hq,Ã (by omega)]
     obtain ⟨f1,f2⟩:=hfold p.2.cells.toList 0 arr
     simp only [Đ] at f2
     have hps:p.2.cells.size = size:=by omega
     have hgetE:∀ j,((p.2.cells.toList.zipIdx 0).foldl (fun cs (x:Value × Nat)=>cs.setIfInBounds (i * size + x.2) x.1) arr).toList[j]? = if i * size <= j ∧ j < i * size + size then p.2.cells.toList[j - i * size]? else arr.toList[j]?:=by
      intro j
      rw [ĸ,f2]
      by_cases hq:i * size <= j ∧ j < i * size + size
      ·rw [Â (by simp; omega),Â hq]
      ·rw [Ã (by simp; omega),Ã hq]; simp
     obtain ⟨arr',g1,g2,g3,g4,g5⟩:=ih qs ((p.2.cells.toList.zipIdx 0).foldl (fun cs (x:Value × Nat)=>cs.setIfInBounds (i * size + x.2) x.1) arr) (rows.set i row) rows' R hR (by rw [f1,ĵ,hl]) (by
       intro i' row' hi'
       rw [Ę] at hi'
       split at hi'
       ·rename_i heq
        subst heq
        simp only [c2,Ë,Ä] at hi'
        subst hi'
        refine ⟨c1,fun j x hx=>?_⟩
        have hj:j < size:=by rw [← c1]; exact (Å.1 hx).1
        obtain ⟨e1,e2,e3⟩:=d2 j x hx
        refine ⟨e1,_,?_,e2⟩
        rw [hgetE,Â (by omega)]
        have:i * size + j - i * size = j:=by omega
        rw [this]
        have:j < p.2.cells.size:=by omega
        simp [this]
       ·rename_i hne
        obtain ⟨r1,r2⟩:=hr i' row' hi'
        refine ⟨r1,fun j x hx=>?_⟩
        obtain ⟨r3,u,r4,r5⟩:=r2 j x hx
        refine ⟨r3,u,?_,r5⟩
        have hj:j < size:=by rw [← r1]; exact (Å.1 hx).1
        rw [hgetE,Ã]
        ·exact r4
        ·rintro ⟨g1,g2⟩
         rcases Nat.lt_or_gt_of_ne hne with hlt | hlt
         ·have:(i + 1) * size <= i' * size:=Ð _ (by omega)
          rw [ê] at this; omega
         ·have:(i' + 1) * size <= i * size:=Ð _ (by omega)
          rw [ê] at this; omega) (by
       intro u hu
       obtain ⟨j,hj⟩:=æ.1 hu
       rw [hgetE] at hj
       split at hj
       ·rename_i hq
        have hlt:j - i * size < row.length:=by omega
        have hlt2:j - i * size < p.2.cells.size:=by omega
        have:=(d2 (j - i * size) (row[j - i * size]'hlt) (by simp)).2.2
        have:p.2.cells.getD (j - i * size) undef = u:=by
         simp only [ĸ] at hj
         simp [hj]
        rw [← this]; assumption
       ·exact ho u (Ê hj)) (by simpa using hlen) (fun j p' q' hp' hq'=>hp (j + 1) p' q' (by simpa using hp') (by simpa using hq')) e
     refine ⟨arr',?_,g2,by rw [g3,ĵ],g4,g5⟩
     simp only [Instr.fill,hpi]
     rw [Ã (by simp; omega)]
     have:p.2.cells.zipIdx.foldl (fun cs (x:Value × Nat)=>cs.setIfInBounds (i * size + x.2) x.1) arr = (p.2.cells.toList.zipIdx 0).foldl (fun cs (x:Value × Nat)=>cs.setIfInBounds (i * size + x.2) x.1) arr:=by
      rw [← Array.foldl_toList]; simp
     rw [this]
     exact g1
    ·cases e
end
end Vm
end
section
namespace Vm
open Go.RowKit
section
variable {P:Program} {nt:Nat} {w0:cF} {w:World} {h0 h:Hp} {fr:Nat->V} {bl:Nat->Option aO} {a:Act} {hd:Nat->Value}
theorem aE3 {wr:List (Nat × Option aO)} (hok:wX bl wr) {site:Nat} (hs:bl site = none):bQ bl wr site = none:=by
 unfold bQ
 rcases GG wr (bl site) site with q | ⟨p,q1,q2,q3⟩
 ·rw [q]; exact hs
 ·obtain ⟨b,h1,_⟩:=hok.live q1
  rw [q2,hs] at h1; cases h1
theorem SX (r:Rl nt w0 h0 fr bl a w h hd) {t e:TypeId} {i:TypeInfo} {z:Value} {zs:List V} {row:List D} (ht:P.underlying t = some (.slice e)) (hi:P.info? e = some i) (hz:i.zero = some z) (hzs:aT AQ z.cells.toList = some zs) (hrow:aT dOf zs = some row)
  {len:Nat} (h24:len * i.size <= 16777216) (hsz:z.cells.size = i.size) (hpos:0 < i.size) {ps:List (Nat × Operand)} {qs:List (Nat × bO)} (hp:aT (fun (p:Nat × Operand)=>(iA p.2).map fun x=>(p.1,x)) ps = some qs)
  {C:Nat->List D->Option D} {site:Nat} {v:V} {wr:List (Nat × Option aO)} (dst:Option Nat) (hdst:GB nt w0 dst) (ha:cE C site (bN fr) bl (.buildSlice e i.size row len qs) = some (v,wr)) :
  ∃ cv w' h' hd',(Instr.buildSlice t len (ps.map fun x=>(x.1,a.eval x.2)).toArray).run P w = .ok cv w' ∧ Rl nt w0 h0 (fB fr dst v) (bQ bl wr) (a.put dst cv) w' h' hd':=by
 simp only [cE] at ha
 split at ha
 ·rename_i hsite
  split at ha
  ·rename_i rows hrows
   cases ha
   have hok:wX bl (qs.flatMap fun x=>yG bl (bN fr x.2)):=wX.flatMap qs fun x=>bN fr x.2
   obtain ⟨m1,m2⟩:=bP hp
   obtain ⟨z1,z2⟩:=T9 (h:=H5 w h hd (qs.flatMap fun x=>yG bl (bN fr x.2))) hzs hrow
   have hz0:(if len * i.size = 0 then (#[]:Array Value) else z.cells) = z.cells ∨ len = 0:=by
    by_cases hl:len = 0
    ·exact .inr hl
    ·rw [Ã]; exact .inl rfl
     intro he
     rcases Nat.mul_eq_zero.1 he with q | q <;> omega
   -- the zeros
   have hzero:∀ j,j < len * i.size->((Array.range (len * i.size)).map ((if len * i.size = 0 then (#[]:Array Value) else z.cells)[· % (if len * i.size = 0 then (#[]:Array Value) else z.cells).size]!)).toList[j]? = some (z.cells.getD (j % i.size) undef):=by
    intro j hj
    have hne:len * i.size ≠ 0:=by omega
    simp only [Ã hne]
    have hlt:j % i.size < z.cells.size:=by rw [hsz]; exact Nat.mod_lt _ hpos
    simp [hj,hsz]
    rw [Ľ z.cells (j % i.size) hlt]
    simp [hlt]
   obtain ⟨arr',g1,g2,g3,g4,g5⟩:=aAt i.size hpos (ps.map fun x=>(x.1,a.eval x.2)) (qs.map fun x=>(x.1,bN fr x.2)) ((Array.range (len * i.size)).map ((if len * i.size = 0 then (#[]:Array Value) else z.cells)[· % (if len * i.size = 0 then (#[]:Array Value) else z.cells).size]!)) (List.replicate len row) rows
    (bl:=bl) (hh:=H5 w h hd (qs.flatMap fun x=>yG bl (bN fr x.2))) (fun v x=>R3 h hd bl v x ∧ ∀ p ∈ yG bl x,p ∈ qs.flatMap fun x=>yG bl (bN fr x.2)) (by
     rintro v x row' ⟨hx,hw⟩ hm
     have hk:x.known = true:=by cases x <;> first | rfl | (simp [V.cells,aT,iQ,nF] at hm)
     obtain ⟨c1,c2⟩:=FW hx hk
     obtain ⟨n1,n2⟩:=bP hm
     refine ⟨by omega,fun j d hj=>?_⟩
     obtain ⟨y,y1,y2⟩:=bU hm hj
     have:=nB r (qs.flatMap fun x=>yG bl (bN fr x.2)) (c2 j y y1).1 y2 (fun p hp=>hw p (by
      cases x with
      | agg cs=>exact Î.2 ⟨y,Ê y1,hp⟩
      | _ =>
       have hz:y = _:=(í.1 (Ê y1))
       rw [hz] at hp; exact hp))
     exact ⟨this.2,this.1,(c2 j y y1).2⟩)
    (by simp) (HA hsz (z1.trans hsz) hpos z2 len (by
     intro j hj; exact hzero j hj)) (by
     intro u hu
     obtain ⟨j,hj⟩:=æ.1 hu
     have hlt:j < len * i.size:=by have:=(Å.1 hj).1; simpa using this
     rw [hzero j hlt] at hj
     cases hj
     have:j % i.size < row.length:=by rw [z1,hsz]; exact Nat.mod_lt _ hpos
     exact (z2 (j % i.size) row[j % i.size] (by simp [this])).2.2) (by simpa using m1) (by
     intro j p q hp' hq'
     rw [Ç,Á] at hp' hq'
     obtain ⟨p0,p1,rfl⟩:=hp'
     obtain ⟨q0,q1,rfl⟩:=hq'
     obtain ⟨y,y1,y2⟩:=m2 j p0 p1
     rw [q1] at y1
     cases y1
     rw [Á] at y2
     obtain ⟨x,x1,x2⟩:=y2
     subst x2
     exact ⟨rfl,bC r.globs r.frame x1,fun p hp=>Î.2 ⟨_,Ê q1,hp⟩⟩) hrows
   have r':=r.freeze _ hok
   have hlen:rows.length = len:=by rw [g3]; simp
   have hle:rows.length <= maxLen:=by
    have:len <= len * i.size:=õ _ hpos
    unfold maxLen; omega
   obtain ⟨hd',hr⟩:=r'.newRows (w':=w.alloc (.cells arr' e)) dst hdst site (aE3 hok hsite) e i.size rows (.slice (some ⟨w.heap.size,0,none⟩) rows.length rows.length) arr'.toList hpos hle (World.grownBy_alloc w _ none)
    ⟨by simpa using g2,.inr ⟨w.heap.size,rows.length,arr',rfl,Õ _,ĭ w _,Õ _,hle,g2,by rw [List.take_of_length_le]; simp; omega⟩⟩ g4
   refine ⟨_,_,_,hd',?_,by rw [WU]; exact hr⟩
   have h24' : ¬ (16777216 < len * i.size):=by omega
   rw [hlen]
   by_cases hne:len * i.size = 0
   ·simp only [Â hne] at g1
    simp [Instr.buildSlice,Ô ht,gR hi,h24',hne,Result.andThen,newRow] at g1 ⊢
    simp [g1]
   ·simp only [Ã hne] at g1
    simp [Instr.buildSlice,Ô ht,gR hi,h24',hne,zeroValue,nN hi,hz,Result.andThen,newRow,g1]
  ·cases ha
 ·cases ha
theorem aGE (r:Rl nt w0 h0 fr bl a w h hd) {t e:TypeId} {i:TypeInfo} (ht:P.underlying t = some (.slice e)) (hi:P.info? e = some i) {x:V} {xv:Value} (hx:R3 h hd bl xv x) {lo hi' : Option V} {lov hiv:Option Value}
  (hlo:∀ x,lo = some x->∃ u,lov = some u ∧ R3 h hd bl u x) (hhi:∀ x,hi' = some x->∃ u,hiv = some u ∧ R3 h hd bl u x) (nlo:lo = none->lov = none) (nhi:hi' = none->hiv = none)
  {v:V} {wr:List (Nat × Option aO)} (dst:Option Nat) (hdst:GB nt w0 dst) (ha:zR bl i.size x lo hi' = some (v,wr)) :
  ∃ cv h' hd',(Instr.sliceAt t xv lov hiv none).run P w = .ok cv w ∧ Rl nt w0 h0 (fB fr dst v) (bQ bl wr) (a.put dst cv) w h' hd':=by
 have hat:∀ (ao:Option Addr) (n c:Nat) (l m:Nat),(Instr.sliceBounds true n c lov hiv none).run P w = .ok (l,m,c) w->(Instr.sliceAt t (.slice ao n c) lov hiv none).run P w = .ok (.slice (if c = l then ao else ao.map (·.add (l * i.size))) (m - l) (c - l)) w:=by
  intro ao n c l m hb
  simp [Instr.sliceAt,Instr.slice,Ô ht,hb,gR hi,Result.andThen]
 have general:∀ (rows:List (List D)) (h' l' : Int),gF bl x = some rows->bnd rows.length hi' = some h'->bnd 0 lo = some l'->0 <= l'->l' <= h'->h'.toNat <= rows.length->sized i.size rows = true ->
   ∃ cv hh,(Instr.sliceAt t xv lov hiv none).run P w = .ok cv w ∧ Rl nt w0 h0 (fB fr dst (.d (.sl ((rows.take h'.toNat).drop l'.toNat)))) (bQ bl (CP bl x)) (a.put dst cv) w hh hd:=by
  intro rows h' l' hro e1 e2 c1 c2 c3 c4
  have hs:∀ row ∈ rows,row.length = i.size:=fun row hr=>by simpa using Ì.1 c4 row hr
  obtain ⟨ao,n,c,rfl,hn,hnc,hsub⟩:=(JB r hx hro).sub hs (l:=l'.toNat) (m:=h'.toNat) (by omega) c3
  have hb:=wS (P:=P) (w:=w) hlo hhi nlo nhi (n:=n) (c:=c) (l:=l') (m:=h') (by rw [← hn]; exact e1) e2 c1 c2 (by omega) true
  refine ⟨_,_,hat ao n c _ _ hb,(r.freeze _ (PC x)).put0 dst _ _ hdst ⟨rfl,hsub⟩⟩
 rw [P9] at ha
 split at ha
 ·rename_i id ver k q
  cases hb:bl id with
  | none=>simp [hb] at ha
  | some b =>
   cases b with
   | rows v' e' s rows =>
    simp only [hb] at ha
    split at ha
    ·rename_i hc
     obtain ⟨rfl,c1,c2⟩:=hc
     cases ha
     obtain ⟨b,c',hb',hc',hle,h1,he⟩ : ∃ b c,bl id = some b ∧ b.ver? = some c ∧ ver <= c ∧ xv.oneCell' = true ∧ (ver = c->xv = hd id):=hx
     rw [hb] at hb'
     cases hb'
     simp only [aO.ver?,Ä] at hc'
     obtain rfl:=he hc'
     obtain ⟨q1,q2,⟨xs,q3,q4⟩,q5⟩:=r.blk id _ hb
     have hgrown:w.grownBy w (hd id).ownBlock:=⟨rfl,rfl,rfl,Õ _,fun _ _ _=>rfl⟩
     have htk:(rows.take q.toNat).length = q.toNat:=by rw [Ā]; omega
     have hq4:jE h s (rows.take q.toNat) (xs.take (q.toNat * s)):=by
      intro i' row hi'
      rw [Ò] at hi'
      split at hi'
      ·rename_i hlt
       obtain ⟨g1,g2⟩:=q4 i' row hi'
       refine ⟨g1,fun j y hy=>?_⟩
       obtain ⟨g3,u,g4,g5⟩:=g2 j y hy
       refine ⟨g3,u,?_,g5⟩
       have hj:j < s:=by rw [← g1]; exact (Å.1 hy).1
       rw [Ò,Â]
       ·exact g4
       ·have:(i' + 1) * s <= q.toNat * s:=Ð _ (by omega)
        rw [ê] at this; omega
      ·cases hi'
     have hxl:xs.length = rows.length * s:=q3.1
     have hmul:q.toNat * s <= rows.length * s:=Ð _ c2
     rcases q3.2 with ⟨q6,q7⟩ | ⟨g,oo,cap,cur,q6,q8,q9,q10,q11,q12⟩
     ·have hq0:q.toNat = 0:=by omega
      have hbd:=wS (P:=P) (w:=w) hlo hhi nlo nhi (n:=0) (c:=0) (l:=0) (m:=q) rfl rfl (by omega) c1 (by omega) true
      obtain ⟨hd',hr⟩:=r.grow (w':=w) dst hdst id ver e' s rows (rows.take q.toNat) hb (hd id) [] (by omega) hgrown (by rw [htk,hq0,q6]; exact w9 (Ĉ w 0 e' s))
       (by rw [hq0]; intro i' row hi'; simp at hi') (fun g hg=>.inr hg)
      refine ⟨hd id,_,hd',?_,hr⟩
      rw [q6,hat none 0 0 _ _ hbd]
      simp [hq0]
     ·have hbd:=wS (P:=P) (w:=w) hlo hhi nlo nhi (n:=rows.length) (c:=cap) (l:=0) (m:=q) rfl rfl (by omega) c1 (by omega) true
      obtain ⟨hd',hr⟩:=r.grow (w':=w) dst hdst id ver e' s rows (rows.take q.toNat) hb (.slice (some ⟨g,oo * s,none⟩) q.toNat cap) (xs.take (q.toNat * s)) (by omega) hgrown
       (by
        rw [htk]
        refine ⟨by rw [Ā]; omega,.inr ⟨g,oo,cap,cur,rfl,q8,by omega,q10,q11,?_⟩⟩
        rw [← q12,List.take_take]
        congr 1
        omega) hq4 (fun g' hg'=>.inr (by rw [q6]; exact hg'))
      refine ⟨.slice (some ⟨g,oo * s,none⟩) q.toNat cap,_,hd',?_,hr⟩
      rw [q6,hat (some ⟨g,oo * s,none⟩) rows.length cap _ _ hbd]
      simp [Addr.add_zero']
    ·cases ha
   | _=>simp [hb] at ha
 ·cases hro:gF bl x with
  | none=>simp [hro] at ha
  | some rows =>
   simp only [hro] at ha
   split at ha
   ·rename_i h' l' e1 e2
    split at ha
    ·rename_i hc
     obtain ⟨c1,c2,c3,c4⟩:=hc
     cases ha
     obtain ⟨cv,hh,g1,g2⟩:=general rows h' l' hro e1 e2 c1 c2 c3 c4
     exact ⟨cv,hh,hd,g1,g2⟩
    ·cases ha
   ·cases ha
theorem aOs (bl:Nat->Option aO) (size:Nat) (x:V) (lo hi:Option V):LS bl size x lo hi = (match x with
 | .own id ver=>match bl id with
  | some (.rows v e sz rows)=>match bnd rows.length hi,bnd 0 lo with
   | some h,some l=>if ver = v ∧ sz = size ∧ 0 <= l ∧ l <= h ∧ h.toNat <= rows.length then some (.own id (ver + 1),[(id,some (.rows (ver + 1) e sz ((rows.take h.toNat).drop l.toNat)))]) else none
   | _,_=>none
  | _=>none
 | _=>none):=rfl
theorem aOJ (r:Rl nt w0 h0 fr bl a w h hd) {t e:TypeId} {i:TypeInfo} (ht:P.underlying t = some (.slice e)) (hi:P.info? e = some i) {x:V} {xv:Value} (hx:R3 h hd bl xv x) {lo hi' : Option V} {lov hiv:Option Value}
  (hlo:∀ x,lo = some x->∃ u,lov = some u ∧ R3 h hd bl u x) (hhi:∀ x,hi' = some x->∃ u,hiv = some u ∧ R3 h hd bl u x) (nlo:lo = none->lov = none) (nhi:hi' = none->hiv = none)
  {v:V} {wr:List (Nat × Option aO)} (dst:Option Nat) (hdst:GB nt w0 dst) (ha:LS bl i.size x lo hi' = some (v,wr)) :
  ∃ cv hd',(Instr.sliceAt t xv lov hiv none).run P w = .ok cv w ∧ Rl nt w0 h0 (fB fr dst v) (bQ bl wr) (a.put dst cv) w h hd':=by
 have hat:∀ (ao:Option Addr) (n c:Nat) (l m:Nat),(Instr.sliceBounds true n c lov hiv none).run P w = .ok (l,m,c) w->(Instr.sliceAt t (.slice ao n c) lov hiv none).run P w = .ok (.slice (if c = l then ao else ao.map (·.add (l * i.size))) (m - l) (c - l)) w:=by
  intro ao n c l m hb
  simp [Instr.sliceAt,Instr.slice,Ô ht,hb,gR hi,Result.andThen]
 rw [aOs] at ha
 split at ha
 ·rename_i id ver
  split at ha
  ·rename_i v' e' s rows hb
   split at ha
   ·rename_i m l e1 e2
    split at ha
    ·rename_i hc
     obtain ⟨rfl,rfl,c1,c2,c3⟩:=hc
     cases ha
     obtain ⟨b,c',hb',hc',hle,h1,he⟩ : ∃ b c,bl id = some b ∧ b.ver? = some c ∧ ver <= c ∧ xv.oneCell' = true ∧ (ver = c->xv = hd id):=hx
     rw [hb] at hb'
     cases hb'
     simp only [aO.ver?,Ä] at hc'
     obtain rfl:=he hc'
     obtain ⟨q1,q2,⟨xs,q3,q4⟩,q5⟩:=r.blk id _ hb
     have hgrown:w.grownBy w (hd id).ownBlock:=⟨rfl,rfl,rfl,Õ _,fun _ _ _=>rfl⟩
     have hlm:l.toNat <= m.toNat:=by omega
     have htk:((rows.take m.toNat).drop l.toNat).length = m.toNat - l.toNat:=by rw [List.length_drop,Ā]; omega
     have hin:jE h i.size ((rows.take m.toNat).drop l.toNat) ((xs.take (m.toNat * i.size)).drop (l.toNat * i.size)):=by
      intro i' row hi'
      rw [Ö,Ò] at hi'
      split at hi'
      ·rename_i hlt
       obtain ⟨g1,g2⟩:=q4 _ row hi'
       refine ⟨g1,fun j y hy=>?_⟩
       obtain ⟨g3,u,g4,g5⟩:=g2 j y hy
       refine ⟨g3,u,?_,g5⟩
       have hj:j < i.size:=by rw [← g1]; exact (Å.1 hy).1
       have e3:l.toNat * i.size + (i' * i.size + j) = (l.toNat + i') * i.size + j:=by rw [ê]; omega
       rw [Ö,e3,Ò,Â]
       ·exact g4
       ·have:(l.toNat + i' + 1) * i.size <= m.toNat * i.size:=Ð _ (by omega)
        rw [ê (l.toNat + i')] at this; omega
      ·cases hi'
     have hxl:xs.length = rows.length * i.size:=q3.1
     have hmul:m.toNat * i.size <= rows.length * i.size:=Ð _ c3
     have hmul2:l.toNat * i.size <= m.toNat * i.size:=Ð _ hlm
     have hsub:(m.toNat - l.toNat) * i.size = m.toNat * i.size - l.toNat * i.size:=Nat.sub_mul _ _ _
     rcases q3.2 with ⟨q6,q7⟩ | ⟨g,o,cap,cur,q6,q8,q9,q10,q11,q12⟩
     ·have hbd:=wS (P:=P) (w:=w) hlo hhi nlo nhi (n:=0) (c:=0) (l:=l) (m:=m) (by rw [← q7]; exact e1) e2 c1 c2 (by omega) true
      have hm0:m.toNat = 0:=by omega
      have hl0:l.toNat = 0:=by omega
      obtain ⟨hd',hr⟩:=r.grow (w':=w) dst hdst id ver e' i.size rows ((rows.take m.toNat).drop l.toNat) hb (hd id) [] (by omega) hgrown (by rw [htk,hm0,q6]; simpa using w9 (Ĉ w 0 e' i.size))
       (by rw [hm0]; intro i' row hi'; simp at hi') (fun g hg=>.inr hg)
      refine ⟨hd id,hd',?_,hr⟩
      rw [q6,hat none 0 0 _ _ hbd]
      simp [hm0,hl0]
     ·have hbd:=wS (P:=P) (w:=w) hlo hhi nlo nhi (n:=rows.length) (c:=cap) (l:=l) (m:=m) e1 e2 c1 c2 (by omega) true
      have hrun:=hat (some ⟨g,o * i.size,none⟩) rows.length cap _ _ hbd
      by_cases hcl:cap = l.toNat
      ·rw [Â hcl] at hrun
       have hml:m.toNat - l.toNat = 0:=by omega
       obtain ⟨hd',hr⟩:=r.grow (w':=w) dst hdst id ver e' i.size rows ((rows.take m.toNat).drop l.toNat) hb (.slice (some ⟨g,o * i.size,none⟩) (m.toNat - l.toNat) (cap - l.toNat)) ((xs.take (m.toNat * i.size)).drop (l.toNat * i.size)) (by omega) hgrown
        (by
         rw [htk]
         refine ⟨by rw [List.length_drop,Ā]; omega,.inr ⟨g,o,cap - l.toNat,cur,rfl,q8,by omega,by omega,?_,?_⟩⟩
         ·refine ó (Ð _ ?_) q11; omega
         ·rw [hml,Nat.zero_mul,List.take_zero]
          symm
          apply Í
          rw [List.length_drop,Ā]
          have:m.toNat = l.toNat:=by omega
          rw [this]; omega) hin (fun g' hg'=>.inr (by rw [q6]; exact hg'))
       exact ⟨_,hd',by rw [q6]; exact hrun,hr⟩
      ·rw [Ã hcl,Ù,ċ] at hrun
       obtain ⟨hd',hr⟩:=r.grow (w':=w) dst hdst id ver e' i.size rows ((rows.take m.toNat).drop l.toNat) hb (.slice (some ⟨g,o * i.size + l.toNat * i.size,none⟩) (m.toNat - l.toNat) (cap - l.toNat)) ((xs.take (m.toNat * i.size)).drop (l.toNat * i.size)) (by omega) hgrown
        (by
         rw [htk]
         refine ⟨by rw [List.length_drop,Ā]; omega,.inr ⟨g,o + l.toNat,cap - l.toNat,cur,by rw [ê],q8,by omega,by omega,?_,?_⟩⟩
         ·rw [show o + l.toNat + (cap - l.toNat) = o + cap by omega]; exact q11
         ·rw [← q12]
          apply ē
          intro j
          rw [Ò,Ö,Ö,Ò,Ò,Ö,ê]
          by_cases hj:j < (m.toNat - l.toNat) * i.size
          ·rw [Â hj,Â (by omega),Â (by omega),Ć]
          ·rw [Ã hj,Ã (by omega)]) hin (fun g' hg'=>.inr (by rw [q6]; exact hg'))
       exact ⟨_,hd',by rw [q6]; exact hrun,hr⟩
    ·cases ha
   ·cases ha
  ·cases ha
 ·cases ha
theorem aGT (r:Rl nt w0 h0 fr bl a w h hd) {t ty e:TypeId} {i:TypeInfo} {z:Value} {zs:List V} {row:List D} (ht:P.underlying t = some (.slice e)) (hi:P.info? e = some i) (hz:i.zero = some z) (hzs:z.cells.size = i.size) (hsz:0 < i.size)
  (h1:aT AQ z.cells.toList = some zs) (h2:aT dOf zs = some row) {C:Nat->List D->Option D} {site:Nat} {x:bO} {xv:Value} (hx:R3 h hd bl xv (bN fr x)) {v:V} {wr:List (Nat × Option aO)} (dst:Option Nat) (hdst:GB nt w0 dst)
  (ha:cE C site (bN fr) bl (.clear row x) = some (v,wr)) :
  ∃ w' hd',(Builtin.clear_ #[t] ty #[xv]).run P w = .ok (.tuple #[]) w' ∧ Rl nt w0 h0 (fB fr dst v) (bQ bl wr) (a.put dst (.tuple #[])) w' h hd':=by
 simp only [cE] at ha
 generalize bN fr x = xx at ha hx
 obtain ⟨z1,z2⟩:=T9 (h:=h) h1 h2
 cases xx with
 | nil =>
  cases ha
  obtain rfl:xv = .slice none 0 0:=hx
  exact ⟨w,hd,by simp [Builtin.clear_,Ô ht],r.put0 dst _ _ hdst trivial⟩
 | own id ver =>
  simp only at ha
  split at ha
  ·rename_i vv e' s rows hb
   split at ha
   ·rename_i hc
    obtain ⟨rfl,hl⟩:=hc
    cases ha
    obtain ⟨b,c',hb',hc',hle,g1,he⟩ : ∃ b c,bl id = some b ∧ b.ver? = some c ∧ ver <= c ∧ xv.oneCell' = true ∧ (ver = c->xv = hd id):=hx
    rw [hb] at hb'
    cases hb'
    simp only [aO.ver?,Ä] at hc'
    obtain rfl:=he hc'
    obtain ⟨q1,q2,⟨xs,q3,q4⟩,q5⟩:=r.blk id _ hb
    have hs:s = i.size:=by rw [← hl,z1,hzs]
    subst hs
    by_cases hn:rows.length = 0
    ·have hrows:rows = []:=Í hn
     subst hrows
     have hrun:(Builtin.clear_ #[t] ty #[hd id]).run P w = .ok (.tuple #[]) w:=by
      rcases q3.2 with ⟨q6,_⟩ | ⟨g,o,cap,cur,q6,_⟩
      ·rw [q6]; simp [Builtin.clear_,Ô ht]
      ·rw [q6]; simp [Builtin.clear_,Ô ht]
     exact ⟨w,hd,hrun,r.setRows (w':=w) dst hdst (.tuple #[]) id ver e' i.size [] [] hb xs rfl ⟨rfl,rfl,rfl,Õ _,fun _ _ _=>rfl⟩ q3 q4⟩
    ·rcases q3.2 with ⟨q6,q7⟩ | ⟨g,o,cap,cur,q6,q8,q9,q10,q11,q12⟩
     ·exact absurd q7 hn
     ·have hfit:o * i.size + rows.length * i.size <= cur.size:=by
       have:(o + rows.length) * i.size <= (o + cap) * i.size:=Ð _ (by omega)
       rw [ê] at this; omega
      have hzlen:(Builtin.zeroCells z.cells rows.length).toList.length = rows.length * i.size:=by simp [Builtin.zeroCells,hzs]
      have hzget:∀ j,j < rows.length * i.size->(Builtin.zeroCells z.cells rows.length).toList[j]? = some (z.cells.getD (j % i.size) undef):=by
       intro j hj
       have hlt:j % i.size < z.cells.size:=by rw [hzs]; exact Nat.mod_lt _ hsz
       simp [Builtin.zeroCells,hj,hzs]
       rw [Ľ z.cells (j % i.size) hlt]
       simp [hlt]
      have hone:∀ u ∈ (Builtin.zeroCells z.cells rows.length).toList,u.oneCell' = true:=by
       intro u hu
       obtain ⟨j,hj⟩:=æ.1 hu
       have hlt:j < rows.length * i.size:=by have:=(Å.1 hj).1; omega
       rw [hzget j hlt] at hj
       cases hj
       have:j % i.size < row.length:=by rw [z1,hzs]; exact Nat.mod_lt _ hsz
       exact (z2 (j % i.size) row[j % i.size] (by simp [this])).2.2
      have hrun:=Ĥ P g (o * i.size) e' (Builtin.zeroCells z.cells rows.length).toList 0 cur w q8 (by rw [hzlen]; omega) hone
      simp only [Đ] at hrun
      have hfull:(Builtin.clear_ #[t] ty #[hd id]).run P w = .ok (.tuple #[]) (w.setRow g (cur.toList.take (o * i.size) ++ (Builtin.zeroCells z.cells rows.length).toList ++ cur.toList.drop (o * i.size + (Builtin.zeroCells z.cells rows.length).toList.length)).toArray):=by
       rw [q6]
       generalize hN:rows.length = N at hn hrun ⊢
       cases N with
       | zero=>exact absurd rfl hn
       | succ N=>simp [Builtin.clear_,Ô ht,zeroValue,nN hi,hz,Result.andThen,hrun]
      have hr:=r.setRows (w':=w.setRow g (cur.toList.take (o * i.size) ++ (Builtin.zeroCells z.cells rows.length).toList ++ cur.toList.drop (o * i.size + (Builtin.zeroCells z.cells rows.length).toList.length)).toArray) dst hdst (.tuple #[]) id ver e' i.size rows (List.replicate rows.length row) hb
       (Builtin.zeroCells z.cells rows.length).toList (by simp) (by rw [q6]; exact z0 w g _)
       (by
        rw [q6,ĥ]
        refine ⟨hzlen,.inr ⟨g,o,cap,_,rfl,Ĺ w g cur _ e' _ q8,q9,q10,by simp [hzlen] at hfit ⊢; omega,?_⟩⟩
        apply ē
        intro j
        rw [Ò,Ö]
        by_cases hj:j < rows.length * i.size
        ·rw [Â hj,GL _ _ _ _ (by rw [hzlen]; simpa using hfit),Â (by omega)]
         congr 1
         omega
        ·rw [Ã hj,Ď (by omega)])
       (HA hzs (z1.trans hzs) hsz z2 rows.length hzget)
      exact ⟨_,hd,hfull,hr⟩
   ·cases ha
  ·cases ha
 | _=>cases ha
theorem aDS {t e:TypeId} {n:Nat} {i:TypeInfo} (ht:P.underlying t = some (.array n e)) (hi:P.info? e = some i) (hs:i.size = 1) {x:V} {xv:Value} (hx:R3 h hd bl xv x) {C:Nat->List D->Option D} {site:Nat} {xo:bO} (hxo:bN fr xo = x)
  {v:V} {wr:List (Nat × Option aO)} (ha:cE C site (bN fr) bl (.sliceA n xo) = some (v,wr)):wr = [] ∧ ∃ cv,(Instr.sliceAt t xv none none none).run P w = .ok cv w ∧ R3 h hd bl cv v:=by
 simp only [cE] at ha
 rw [hxo] at ha
 split at ha
 ·rename_i row
  split at ha
  ·rename_i hc
   obtain ⟨c1,c2⟩:=hc
   cases ha
   obtain ⟨_,hr⟩:=hx
   cases hr with
   | ptr b o off k row cv hn hm hr ho =>
    have hk:k = o:=by omega
    subst hk
    have hb:=wS (P:=P) (w:=w) (h:=h) (hd:=hd) (bl:=bl) (n:=n) (c:=n) (lov:=none) (hiv:=none) (lo:=none) (hi:=none) (fun x e=>by cases e) (fun x e=>by cases e) (fun _=>rfl) (fun _=>rfl) (l:=0) (m:=n) rfl rfl (by omega) (by omega) (by omega) false
    refine ⟨rfl,.slice (some ⟨b,k,none⟩) n n,?_,rfl,?_⟩
    ·rw [show (0:Int).toNat = 0 from rfl,ć] at hb
     simp [Instr.sliceAt,Ô ht,Instr.sureAddr,hb,gR hi,Result.andThen,ċ]
    ·refine .sl b k n 1 n (row.map fun c=>[c]) (fun i _=>cv i) (by simp [c1]) (by simp [c1]) (fun i r e=>?_) (fun i r j x e e2=>?_) (fun i r j x e e2=>?_) (fun i r j x e e2=>?_)
     all_goals rw [Ç,Á] at e
     all_goals obtain ⟨y,y1,rfl⟩:=e
     ·rfl
     all_goals
      obtain rfl:j = 0:=by
       rcases j with _ | j
       ·rfl
       ·simp at e2
      simp only [ï,Ä] at e2
      subst e2
     ·have:=hm i y y1
      simpa using this
     ·exact hr i y y1
     ·exact ho i y y1
  ·cases ha
 ·cases ha
theorem Y8 (x:V) (lo hi:Option V):PN x lo hi = (match x with
 | .d (.str s)=>match bnd s.size hi,bnd 0 lo with
  | some h,some l=>if 0 <= l ∧ l <= h ∧ h.toNat <= s.size then some (.d (.str (s.extract l.toNat h.toNat)),[]) else none
  | _,_=>none
 | _=>none):=rfl
theorem YG {t:TypeId} (ht:P.underlying t = some .string) {x:V} {xv:Value} (hx:R3 h hd bl xv x) {lo hi' : Option V} {lov hiv:Option Value}
  (hlo:∀ x,lo = some x->∃ u,lov = some u ∧ R3 h hd bl u x) (hhi:∀ x,hi' = some x->∃ u,hiv = some u ∧ R3 h hd bl u x) (nlo:lo = none->lov = none) (nhi:hi' = none->hiv = none)
  {v:V} {wr:List (Nat × Option aO)} (ha:PN x lo hi' = some (v,wr)):wr = [] ∧ ∃ cv,(Instr.sliceAt t xv lov hiv none).run P w = .ok cv w ∧ R3 h hd bl cv v:=by
 rw [Y8] at ha
 split at ha
 ·rename_i s
  obtain ⟨rfl,hsz⟩:=EF hx
  split at ha
  ·rename_i h' l' e1 e2
   split at ha
   ·rename_i hc
    obtain ⟨c1,c2,c3⟩:=hc
    cases ha
    have hb:=wS (P:=P) (w:=w) hlo hhi nlo nhi (n:=s.size) (c:=s.size) (l:=l') (m:=h') e1 e2 c1 c2 c3 false
    refine ⟨rfl,.string (s.extract l'.toNat h'.toNat),?_,rfl,.str _ ?_⟩
    ·simp [Instr.sliceAt,Instr.slice,Ô ht,hb,Result.andThen]
    ·have:(s.extract l'.toNat h'.toNat).size <= s.size:=by simp [ByteArray.size_extract]; omega
     omega
   ·cases ha
  ·cases ha
 ·cases ha
theorem aB3 {t:TypeId} (ht:P.underlying t = some .string) {C:Nat->List D->Option D} {site:Nat} {x j:bO} {xv jv:Value} (hx:R3 h hd bl xv (bN fr x)) (hj:R3 h hd bl jv (bN fr j)) {v:V} {wr:List (Nat × Option aO)}
  (ha:cE C site (bN fr) bl (.index x j) = some (v,wr)):wr = [] ∧ ∃ cv,(Instr.index t xv jv).run P w = .ok cv w ∧ R3 h hd bl cv v:=by
 simp only [cE] at ha
 generalize bN fr x = xx at ha hx
 generalize bN fr j = jj at ha hj
 split at ha
 ·rename_i s k n
  rw [(EF hx).1,mC hj]
  split at ha
  ·rename_i h0
   split at ha
   ·rename_i b hb
    cases ha
    exact ⟨rfl,.int .u8 b.toNat,by simp [Instr.index,asIntOf,Ô ht,Result.andThen,h0,hb],rfl,.int _ _⟩
   ·cases ha
  ·cases ha
 ·cases ha
theorem aAu {C:Nat->List D->Option D} {site:Nat} {x:bO} {n:Nat} {xv:Value} (hx:R3 h hd bl xv (bN fr x)) {v:V} {wr:List (Nat × Option aO)}
  (ha:cE C site (bN fr) bl (.extract x n) = some (v,wr)):wr = [] ∧ ∃ cv,(Instr.extract xv n).run P w = .ok cv w ∧ R3 h hd bl cv v:=by
 simp only [cE] at ha
 generalize bN fr x = xx at ha hx
 split at ha
 ·rename_i vs
  obtain ⟨arr,rfl,h1,h2⟩ : ∃ arr,xv = .tuple arr ∧ arr.size = vs.length ∧ ∀ j x,vs[j]? = some x->R2 h hd bl (arr.getD j undef) x:=hx
  rw [Á] at ha
  obtain ⟨y,hy,ha⟩:=ha
  cases ha
  have hlt:n < arr.size:=by rw [h1]; exact (Å.1 hy).1
  have:=h2 n _ hy
  refine ⟨rfl,arr[n],by simp [Instr.extract,hlt],R3.of2 ?_⟩
  simpa [hlt] using this
 ·cases ha
theorem Q8:∀ (k1 k2:List Nat) (x y:List V) (b:Bool),dT (k1 ++ k2) x y = some b->∃ b1 b2,dT k1 (x.take k1.length) (y.take k1.length) = some b1 ∧ dT k2 (x.drop k1.length) (y.drop k1.length) = some b2 ∧ b = (b1 && b2)
 | [],k2,x,y,b,h=>⟨true,b,by simp [dT],by simpa using h,by simp⟩
 | k :: k1,k2,[],y,b,h=>by simp [dT] at h
 | k :: k1,k2,x :: xs,[],b,h=>by simp [dT] at h
 | k :: k1,k2,x :: xs,y :: ys,b,h=>by
  simp only [Č,dT] at h
  split at h
  ·rename_i a ha
   split at h
   ·rename_i c hc
    cases h
    obtain ⟨b1,b2,q1,q2,rfl⟩:=Q8 k1 k2 xs ys c hc
    exact ⟨a && b1,b2,by simp [dT,ha,q1],by simpa using q2,by rw [Bool.and_assoc]⟩
   ·cases h
  ·cases h
theorem RA:∀ (ks:List Nat) (x y:List V) (b:Bool),dT ks x y = some b->x.length = ks.length ∧ y.length = ks.length
 | [],[],[],b,h=>⟨rfl,rfl⟩
 | [],_ :: _,_,b,h=>by simp [dT] at h
 | [],[],_ :: _,b,h=>by simp [dT] at h
 | k :: ks,[],_,b,h=>by simp [dT] at h
 | k :: ks,_ :: _,[],b,h=>by simp [dT] at h
 | k :: ks,x :: xs,y :: ys,b,h=>by
  simp only [dT] at h
  split at h
  ·split at h
   ·rename_i c hc
    obtain ⟨h1,h2⟩:=RA ks xs ys c hc
    exact ⟨by simp [h1],by simp [h2]⟩
   ·cases h
  ·cases h
def GP (h:Hp) (hd:Nat->Value) (bl:Nat->Option aO) (xs:Array Value) (cs:List V):Prop:=xs.size = cs.length ∧ ∀ j x,cs[j]? = some x->R1 h hd bl (xs.getD j undef) x
theorem GP.sub {xs:Array Value} {cs:List V} (r:GP h hd bl xs cs) (o n:Nat) (hn:o + n <= cs.length):GP h hd bl (xs.extract o (o + n)) ((cs.drop o).take n):=by
 refine ⟨by simp [r.1]; omega,fun j x hx=>?_⟩
 rw [Ò] at hx
 split at hx
 ·rename_i hj
  rw [Ö] at hx
  have e:(xs.extract o (o + n)).getD j undef = xs.getD (o + j) undef:=by
   simp only [É,Array.getElem?_extract]
   have:=r.1
   rw [Â (by omega)]
  rw [e]; exact r.2 _ _ hx
 ·cases hx
def ND (agg:Bool) (xs:Array Value):Value:=if agg then .agg xs else xs.getD 0 undef
theorem aHj {P:Program} {d:Nat} {t:TypeId} {ks:List Nat} (e:HJ P d t = some ks):∃ b,lZ P t = some b ∧ (b = false->ks.length = 1):=by
 cases d with
 | zero=>simp [HJ] at e
 | succ d =>
  simp only [HJ] at e
  split at e <;> rename_i hu
  ·cases e; exact ⟨false,by simp [lZ,hu],fun _=>rfl⟩
  ·cases e; exact ⟨false,by simp [lZ,hu],fun _=>rfl⟩
  ·cases e; exact ⟨false,by simp [lZ,hu],fun _=>rfl⟩
  ·exact ⟨true,by simp [lZ,hu],fun h=>by cases h⟩
  ·cases e
def C8 (P:Program) (n:Nat) (acc:Option (List Nat)) (f:Field):Option (List Nat):=match acc with
    | none=>none
    | some ks=>if f.offset = ks.length ∧ f.name ≠ "_" then match HJ P n f.type,P.info? f.type with
      | some l,some i=>if i.size = l.length then some (ks ++ l) else none
      | _,_=>none
     else none
theorem ET (P:Program) (n:Nat):∀ l:List Field,l.foldl (C8 P n) none = none
 | []=>rfl
 | f :: l=>by simp only [þ]; exact ET P n l
theorem OK {P:Program} {n:Nat}:∀ (l:List Field) (ks ks' : List Nat),l.foldl (C8 P n) (some ks) = some ks'->∃ r,ks' = ks ++ r
 | [],ks,ks',e=>⟨[],by simp at e; simp [e]⟩
 | f :: l,ks,ks',e=>by
  simp only [þ] at e
  cases hq:C8 P n (some ks) f with
  | none=>rw [hq,ET] at e; cases e
  | some k1 =>
   rw [hq] at e
   obtain ⟨r,rfl⟩:=OK l k1 ks' e
   simp only [C8] at hq
   split at hq
   ·split at hq
    ·split at hq
     ·cases hq; exact ⟨_,ç _ _ _⟩
     ·cases hq
    ·cases hq
   ·cases hq
theorem XB {n k:Nat} (IH:∀ (t:TypeId) (ks:List Nat) (xs ys:Array Value) (cx cy:List V) (b bg:Bool),HJ P n t = some ks->GP h hd bl xs cx->GP h hd bl ys cy->dT ks cx cy = some b->lZ P t = some bg->(Op.equalIn k t (ND bg xs) (ND bg ys)).run P w = .ok b w)
  (xs ys:Array Value) (cx cy:List V) (hx:GP h hd bl xs cx) (hy:GP h hd bl ys cy):∀ (l:List Field) (ks ks' : List Nat) (b:Bool),
  l.foldl (C8 P n) (some ks) = some ks'->dT (ks'.drop ks.length) (cx.drop ks.length) (cy.drop ks.length) = some b->ks'.length <= cx.length->ks'.length <= cy.length ->
  (forIn l (none,()) (fun f (__s:Option Bool × Unit)=>(if f.name ≠ "_" then do
       let __do_lift ← part f.type xs f.offset
       let __do_lift_1 ← part f.type ys f.offset
       let __do_lift ← Op.equalIn k f.type __do_lift __do_lift_1
       if (!__do_lift) = true then pure (ForInStep.done (some false,())) else pure (ForInStep.yield (none,()))
      else pure (ForInStep.yield (none,())):Sem (ForInStep (Option Bool × Unit))))).run P w = .ok (if b then none else some false,()) w
 | [],ks,ks',b,e,he,h1,h2=>by
  simp only [List.foldl_nil,Ä] at e
  subst e
  have hd1:ks.drop ks.length = []:=by simp
  rw [hd1] at he
  have hb:b = true:=by
   cases hcx:cx.drop ks.length with
   | nil=>cases hcy:cy.drop ks.length with
    | nil=>rw [hcx,hcy] at he; simpa [dT] using he.symm
    | cons _ _=>rw [hcx,hcy] at he; simp [dT] at he
   | cons _ _=>rw [hcx] at he; simp [dT] at he
  subst hb
  simp
 | f :: l,ks,ks',b,e,he,h1,h2=>by
  simp only [þ] at e
  cases hq:C8 P n (some ks) f with
  | none=>rw [hq,ET] at e; cases e
  | some k1 =>
   rw [hq] at e
   simp only [C8] at hq
   split at hq
   ·rename_i hcnd
    obtain ⟨hoff,hname⟩:=hcnd
    split at hq
    ·rename_i lf i hlf hif
     split at hq
     ·rename_i hsz
      cases hq
      obtain ⟨r,rfl⟩:=OK l _ ks' e
      have e1:(ks ++ lf ++ r).drop ks.length = lf ++ r:=by rw [ç]; simp
      rw [e1] at he
      obtain ⟨b1,b2,q1,q2,rfl⟩:=Q8 lf r _ _ b he
      simp only [ß] at h1 h2
      obtain ⟨bg,hbg,hone⟩:=aHj hlf
      have run1:=IH f.type lf (xs.extract ks.length (ks.length + lf.length)) (ys.extract ks.length (ks.length + lf.length)) _ _ b1 bg hlf (hx.sub ks.length lf.length (by omega)) (hy.sub ks.length lf.length (by omega)) q1 hbg
      have hpart:∀ (zs:Array Value),ks.length + lf.length <= zs.size->(part f.type zs f.offset).run P w = .ok (ND bg (zs.extract ks.length (ks.length + lf.length))) w:=by
       intro zs hz
       unfold part ND
       rw [î,P0 hbg,hoff]
       cases bg with
       | true=>simp [Result.andThen,gR hif,hsz]
       | false =>
        have hlen:=hone rfl
        have hlt:ks.length < zs.size:=by omega
        have h0:0 < (zs.extract ks.length (ks.length + lf.length)).size:=by simp; omega
        have hmin:ks.length < min (ks.length + lf.length) zs.size:=by omega
        have e3:(zs.extract ks.length (ks.length + lf.length))[0]? = some zs[ks.length]:=by
         rw [Array.getElem?_extract,Â (by omega)]; simp [hlt]
        simp [Result.andThen,hlt,e3]
      have ih:=XB IH xs ys cx cy hx hy l (ks ++ lf) (ks ++ lf ++ r) b2 e (by
       have e2:(ks ++ lf ++ r).drop (ks ++ lf).length = r:=by simp
       rw [e2,ß]
       simpa [List.drop_drop] using q2) (by simp; omega) (by simp; omega)
      rw [List.forIn_cons]
      simp only [hname,ne_eq,not_false_eq_true,Ë,î,hpart xs (by rw [hx.1]; omega),hpart ys (by rw [hy.1]; omega),ñ,run1]
      cases b1 with
      | false=>simp
      | true =>
       simp only [Bool.not_true,Æ,È,ĕ,ñ,ĝ]
       exact ih
     ·cases hq
    ·cases hq
   ·cases hq
theorem aNM {x y:V} {b:Bool} (e:zZ 0 x y = some b):∃ k m n,x = .d (.int k m) ∧ y = .d (.int k n) ∧ b = (m == n):=by
 unfold zZ at e
 split at e <;> first | (simp_all; done) | skip
 split at e
 ·rename_i hk; subst hk; cases e; exact ⟨_,_,_,rfl,rfl,rfl⟩
 ·cases e
theorem aNX {x y:V} {b:Bool} (e:zZ 1 x y = some b):∃ m n,x = .d (.bool m) ∧ y = .d (.bool n) ∧ b = (m == n):=by
 unfold zZ at e
 split at e <;> first | (simp_all; done) | skip
 all_goals (cases e; exact ⟨_,_,rfl,rfl,rfl⟩)
theorem aPA {x y:V} {b:Bool} (e:zZ 2 x y = some b):∃ m n,x = .d (.str m) ∧ y = .d (.str n) ∧ b = (m == n):=by
 unfold zZ at e
 split at e <;> first | (simp_all; done) | skip
 all_goals (cases e; exact ⟨_,_,rfl,rfl,rfl⟩)
theorem aKk:∀ (n k:Nat) (_:n <= k) (t:TypeId) (ks:List Nat) (xs ys:Array Value) (cx cy:List V) (b bg:Bool),HJ P n t = some ks->GP h hd bl xs cx->GP h hd bl ys cy->dT ks cx cy = some b->lZ P t = some bg->(Op.equalIn k t (ND bg xs) (ND bg ys)).run P w = .ok b w
 | 0,_,_,t,ks,xs,ys,cx,cy,b,bg,e,_,_,_,_=>by simp [HJ] at e
 | n + 1,0,hk,t,ks,xs,ys,cx,cy,b,bg,e,_,_,_,_=>by omega
 | n + 1,k + 1,hk,t,ks,xs,ys,cx,cy,b,bg,e,hx,hy,he,hbg=>by
  obtain ⟨hlx,hly⟩:=RA _ _ _ _ he
  have scalar:∀ (κ:Nat),ks = [κ]->bg = false->∃ u v,ND bg xs = u ∧ ND bg ys = v ∧ ∃ x y,R1 h hd bl u x ∧ R1 h hd bl v y ∧ zZ κ x y = some b:=by
   rintro κ rfl rfl
   match cx,cy,hlx,hly with
   | [x],[y],_,_ =>
    refine ⟨_,_,rfl,rfl,x,y,hx.2 0 x rfl,hy.2 0 y rfl,?_⟩
    simp only [dT] at he
    split at he
    ·rename_i a ha
     simp at he
     subst he
     exact ha
    ·cases he
  simp only [HJ] at e
  split at e <;> rename_i hu
  ·cases e
   have hb0:bg = false:=by simp [lZ,hu] at hbg; exact hbg
   obtain ⟨u,v,h1,h2,x,y,h3,h4,h5⟩:=scalar 0 rfl hb0
   rw [h1,h2]
   obtain ⟨k',m,n',rfl,rfl,rfl⟩:=aNM h5
   have g1:u = _:=mC (R3.of2 (R2.of1 h3))
   have g2:v = _:=mC (R3.of2 (R2.of1 h4))
   subst g1; subst g2
   simp [Op.equalIn,Ô hu]
  ·cases e
   have hb0:bg = false:=by simp [lZ,hu] at hbg; exact hbg
   obtain ⟨u,v,h1,h2,x,y,h3,h4,h5⟩:=scalar 1 rfl hb0
   rw [h1,h2]
   obtain ⟨m,n',rfl,rfl,rfl⟩:=aNX h5
   have g1:u = _:=oA (R3.of2 (R2.of1 h3))
   have g2:v = _:=oA (R3.of2 (R2.of1 h4))
   subst g1; subst g2
   simp [Op.equalIn,Ô hu]
  ·cases e
   have hb0:bg = false:=by simp [lZ,hu] at hbg; exact hbg
   obtain ⟨u,v,h1,h2,x,y,h3,h4,h5⟩:=scalar 2 rfl hb0
   rw [h1,h2]
   obtain ⟨m,n',rfl,rfl,rfl⟩:=aPA h5
   have g1:=(EF (R3.of2 (R2.of1 h3))).1
   have g2:=(EF (R3.of2 (R2.of1 h4))).1
   subst g1; subst g2
   simp [Op.equalIn,Ô hu]
  ·rename_i fs
   split at e
   ·cases e
   ·rename_i hst
    have hst:P.stoodInHeld t = false:=by simpa using hst
    have hb0:bg = true:=by simp [lZ,hu] at hbg; exact hbg
    subst hb0
    have:=XB (n:=n) (k:=k) (P:=P) (w:=w) (fun t ks xs ys cx cy b bg=>aKk n k (by omega) t ks xs ys cx cy b bg) xs ys cx cy hx hy fs.toList [] ks b e (by simpa using he) (by omega) (by omega)
    simp only [ND,Ë,Op.equalIn,î,Ô hu,ñ,run_program,hst,Æ,È]
    rw [← Array.forIn_toList,this]
    cases b <;> simp
  ·cases e
theorem aES {t:TypeId} {ks:List Nat} (hk:HJ P 20 t = some ks) {fs:Array Field} (hu:P.underlying t = some (.struct fs)) (hg:P.eqGuardType P.depth t = false) {xv yv:Value} {x y:V} (hx:R3 h hd bl xv x) (hy:R3 h hd bl yv y) {neg:Bool} {d:D} (e:eqV ks neg x y = some d) (xo yo:Operand) :
  ∃ cv,((do eqGuard (if neg then .neq else .eql) t xo yo xv yv; binOp (if neg then .neq else .eql) t xv yv):Sem Value).run P w = .ok cv w ∧ a6 h cv d ∧ d.atom = true:=by
 unfold eqV at e
 split at e
 ·rename_i cx cy
  split at e
  ·rename_i b hb
   cases e
   obtain ⟨xs,rfl,x1,x2⟩:=NK hx
   obtain ⟨ys,rfl,y1,y2⟩:=NK hy
   have hrun:=aKk (P:=P) (w:=w) 20 Op.maxDepth (by decide) t ks xs ys cx cy b true hk ⟨x1,fun j x hx=>(x2 j x hx).1⟩ ⟨y1,fun j x hx=>(y2 j x hx).1⟩ hb (by simp [lZ,hu])
   have hrun' : (Op.equal t (.agg xs) (.agg ys)).run P w = .ok b w:=hrun
   cases neg <;> exact ⟨_,by simp [eqGuard,hg,binOp,hrun',Result.andThen],.bool _,rfl⟩
  ·cases e
 ·cases e
theorem aIb (r:Rl nt w0 h0 fr bl a w h hd) {src dst e:TypeId} (hs:P.underlying src = some .string) (hd' : P.underlying dst = some (.slice e)) (he:P.underlying e = some (.int .u8)) (s:ByteArray) :
  ∃ cv w' h',(convert src dst (.string s)).run P w = .ok cv w' ∧ h.le h' ∧ h'.le (hw w') ∧ (∀ b,b < w.heap.size->h' b = h b) ∧ Below w.heap.size w w' ∧ a6 h' cv (.sl (s.data.toList.map fun b=>[.int .u8 b.toNat])):=by
 have hnew:=Lib.bytesWorld_at_new w e s
 have hnone:h w.heap.size = none:=JE r.hle (Õ _)
 refine ⟨_,Lib.bytesWorld w e s,fun b=>if b = w.heap.size then (Lib.bytesWorld w e s).heap[b]? else h b,Lib.run_convert_string_bytes w src dst e s hs hd' he,?_,?_,?_,?_,?_⟩
 ·intro b o hb
  have:b ≠ w.heap.size:=fun q=>by rw [q,hnone] at hb; cases hb
  show (if b = w.heap.size then _ else h b) = _
  rw [Ã this]; exact hb
 ·intro b o hb
  have hb:(if b = w.heap.size then (Lib.bytesWorld w e s).heap[b]? else h b) = some o:=hb
  split at hb
  ·exact hb
  ·have:=r.hle b o hb
   have hlt:b < w.heap.size:=(Ï.1 this).1
   exact (Lib.bytesWorld_at_old w e s b hlt).trans this
 ·intro b hb
  show (if b = w.heap.size then _ else h b) = _
  rw [Ã (by omega)]
 ·refine ⟨?_,?_,?_,by rw [Lib.bytesWorld_size]; omega,fun k hk=>Lib.bytesWorld_at_old w e s k hk⟩ <;> unfold Lib.bytesWorld World.freeze <;> split <;> rfl
 ·have hsz:s.data.toList.length = s.size:=Array.length_toList
  refine .sl w.heap.size 0 _ 1 s.size _ (fun i j=>.int .u8 (s.data.toList.getD i 0).toNat) (by rw [â,hsz]) (by rw [â,hsz]; exact grownCap_ge w s.size 0 e) ?_ ?_ ?_ (fun i row j x h1 h2=>rfl)
  ·intro i row hi
   rw [Ç,Á] at hi
   obtain ⟨y,_,rfl⟩:=hi
   rfl
  ·intro i row j x hi hj
   rw [Ç,Á] at hi
   obtain ⟨y,hy,rfl⟩:=hi
   have hj0:j = 0:=by
    have:=(Å.1 hj).1
    simp at this; omega
   subst hj0
   have hlt:i < s.size:=by rw [← hsz]; exact (Å.1 hy).1
   have:=Lib.bytesWorld_cell w e s i hlt
   rw [GU] at this
   have e2:(fun b=>if b = w.heap.size then (Lib.bytesWorld w e s).heap[b]? else h b:Hp) w.heap.size = hw (Lib.bytesWorld w e s) w.heap.size:=by
    simp [hw]
   simp only [Hp.cell] at this ⊢
   simp only [Nat.mul_one,Ċ,Đ,Ë]
   exact this
  ·intro i row j x hi hj
   rw [Ç,Á] at hi
   obtain ⟨y,hy,rfl⟩:=hi
   have hj0:j = 0:=by
    have:=(Å.1 hj).1
    simp at this; omega
   subst hj0
   simp only [ï,Ä] at hj
   subst hj
   have:s.data.toList.getD i 0 = y:=by simp only [ä,hy]; rfl
   rw [this]
   exact .int .u8 _
end
end Vm
end
section
namespace Vm
open Go.RowKit Go.Maps
section
variable {nt:Nat} {w0:cF} {w:World} {h0 h:Hp} {fr:Nat->V} {bl:Nat->Option aO} {a:Act} {hd:Nat->Value} {P:Program} {C:Nat->List D->Option D} {site:Nat} {v:V} {wr:List (Nat × Option aO)}
theorem GY {t k e:TypeId} {ek:Nat} (h:UC P t = some (k,e,ek)):P.underlying t = some (.map k e) ∧ P.underlying k = some (.int .i64) ∧ P.underlying e = some (yD ek) ∧ (ek = 0 ∨ ek = 1) ∧ (zML ek).kind = ek ∧ (zML ek).ok ∧ ∀ w:World,(zeroValue e).run P w = .ok (zML ek).val w:=by
 unfold UC at h
 split at h
 ·rename_i k' e' ht
  split at h
  ·rename_i hk
   split at h
   ·rename_i n he hz
    split at h
    ·rename_i hn
     subst hn
     cases h
     refine ⟨ht,hk,he,.inl rfl,rfl,(show nD 0 from ⟨by omega,by omega⟩),fun w=>?_⟩
     obtain ⟨i,hi,hz⟩:=ô.1 hz
     simp [zeroValue,nN hi,hz,zML,ML.val,Result.andThen]
    ·cases h
   ·rename_i he hz
    cases h
    refine ⟨ht,hk,he,.inr rfl,rfl,trivial,fun w=>?_⟩
    obtain ⟨i,hi,hz⟩:=ô.1 hz
    simp [zeroValue,nN hi,hz,zML,ML.val,Result.andThen]
   ·cases h
  ·cases h
 ·cases h
theorem SB {x:V} {n:Int} {xv:Value} (e:KK x = some n) (hx:R3 h hd bl xv x):xv = .int .i64 n ∧ nD n:=by
 unfold KK at e
 split at e
 ·split at e
  ·rename_i n' hn
   cases e
   obtain ⟨_,r⟩ : D.atom _ = true ∧ a6 h xv (.int .i64 n):=hx
   cases r
   exact ⟨rfl,hn⟩
  ·cases e
 ·cases e
theorem aNE {x:V} {y:ML} {xv:Value} (e:aHf x = some y) (hx:R3 h hd bl xv x):xv = y.val ∧ y.ok:=by
 unfold aHf at e
 split at e
 ·cases e
  obtain ⟨_,r⟩ : D.atom _ = true ∧ a6 h xv (.bool _):=hx
  cases r
  exact ⟨rfl,trivial⟩
 ·split at e
  ·rename_i n' hn
   cases e
   obtain ⟨_,r⟩ : D.atom _ = true ∧ a6 h xv (.int .i64 _):=hx
   cases r
   exact ⟨rfl,hn⟩
  ·cases e
 ·cases e
theorem Z8 (y:ML):D.atom y.d = true ∧ a6 h y.val y.d:=by
 cases y with
 | b x=>exact ⟨rfl,.bool x⟩
 | i n=>exact ⟨rfl,.int _ n⟩
theorem aDP {t:TypeId} (r:Rl nt w0 h0 fr bl a w h hd) (dst:Option Nat) (hdst:GB nt w0 dst) (ha:cE C site (bN fr) bl (.mkmap 3) = some (v,wr)) :
  ∃ w' hd' cv,(Instr.makeMap t none).run P w = .ok cv w' ∧ Rl nt w0 h0 (fB fr dst v) (bQ bl wr) (a.put dst cv) w' h hd':=by
 simp only [cE] at ha
 split at ha
 ·rename_i hs
  cases ha
  obtain ⟨hd',q⟩:=r.newMap dst hdst site hs 3 (.inr ⟨rfl,aGr⟩)
  exact ⟨_,hd',_,rfl,q⟩
 ·cases ha
theorem XS (a b:Int):(.string (keyBytes [.int .i64 a,.int .i64 b]):Lit) = Y1 (HR a b):=by
 have h1:(a % 18446744073709551616).toNat < 256 ^ 8:=by
  rw [show (256:Nat) ^ 8 = 18446744073709551616 by rfl]; omega
 have h2:(b % 18446744073709551616).toNat < 256 ^ 8:=by
  rw [show (256:Nat) ^ 8 = 18446744073709551616 by rfl]; omega
 have h3:(HR a b).toNat = (a % 18446744073709551616).toNat * 256 ^ 8 + (b % 18446744073709551616).toNat:=by
  rw [show (256:Nat) ^ 8 = 18446744073709551616 by rfl]; unfold HR; omega
 show Lit.string (bytesBE 8 (a % 18446744073709551616).toNat ++ (bytesBE 8 (b % 18446744073709551616).toNat ++ [])) = Lit.string (bytesBE 16 (HR a b).toNat)
 rw [ý,QT 8 8 _ _ h2,h3]
theorem RG {t:TypeId} (ht:P.underlying t = some (.int .i64)) (d:Nat) {cs:List Value} {L:List Lit} (h:P.keyLits (d + 1) t cs = some L):∃ a:Int,cs = [.int .i64 a] ∧ nD a ∧ L = [.int .i64 a]:=by
 unfold Program.keyLits at h
 simp only [ht] at h
 split at h
 case h_2 q q' n heq =>
  cases heq
  split at h
  ·rename_i hq
   obtain ⟨rfl,hw⟩:=hq
   cases h
   exact ⟨n,rfl,XR hw,rfl⟩
  ·cases h
 all_goals first
  | (cases h; done)
  | (rename_i heq; cases heq)
theorem IV {t:TypeId} (ht:P.underlying t = some (.int .i64)) (d:Nat) {a:Int} (h:nD a):P.keyLits (d + 1) t [.int .i64 a] = some [.int .i64 a]:=by
 unfold Program.keyLits
 simp only [ht]
 rw [Â ⟨trivial,EJ h⟩]
theorem aLU {k:TypeId} (h:aMx P k = true):GI P k:=by
 unfold aMx at h
 simp only [ë,Ñ] at h
 obtain ⟨⟨⟨⟨⟨h1,h2⟩,h3⟩,h4⟩,h5⟩,h6⟩:=h
 obtain ⟨n,hn⟩ : ∃ n,P.types.size = n + 1:=⟨P.types.size - 1,by omega⟩
 split at h6
 ·rename_i fs hu
  split at h6
  ·rename_i f g hfs
   simp only [ë,Ñ] at h6
   obtain ⟨⟨⟨⟨⟨⟨⟨f1,g1⟩,f2⟩,g2⟩,f3⟩,g3⟩,f4⟩,g4⟩:=h6
   replace f1:=WQ f1
   replace g1:=WQ g1
   have hwide:(match P.underlying k with | some (.array _ _) | some (.struct _)=>true | _=>false) = true:=by rw [hu]
   have hall:fs.all (·.name != "_") = true:=by
    rw [← Array.all_toList,hfs]
    simp only [ħ,f4,g4,List.all_nil,Bool.and_true]
   have hlits:∀ cs:List Value,P.keyLits (P.types.size + 1) k cs = if cs.length = 2 then ((P.keyLits (n + 1) f.type (cs.take 1)).bind fun x=>(P.keyLits (n + 1) g.type ((cs.drop 1).take 1)).map fun y=>x ++ y) else none:=by
    intro cs
    rw [hn]
    conv=>lhs; unfold Program.keyLits
    simp only [hu]
    rw [h4]
    by_cases hc:cs.length = 2
    ·rw [Â ⟨hc,hall⟩,Â hc,hfs]
     simp only [List.mapM_cons,List.mapM_nil,f2,g2,f3,g3,List.drop_zero]
     cases P.keyLits (n + 1) f.type (cs.take 1) <;> cases P.keyLits (n + 1) g.type ((cs.drop 1).take 1) <;> simp
    ·rw [Ã (fun q=>hc q.1),Ã hc]
   refine ⟨Keyed.of_law (deep_law (m:=2) (by omega) h1 h3 hwide),fun a b ha hb=>?_,fun {u l} hk=>?_⟩
   ·unfold keyOf
    have hf:(Value.agg #[.int .i64 a,.int .i64 b]).formed P k = true:=by
     simp [Value.formed,hu,h4]
    simp only [hu]
    rw [Â (by rw [h2,hf]; rfl)]
    rw [show (Value.agg #[.int .i64 a,.int .i64 b]).cells.toList = [.int .i64 a,.int .i64 b] from rfl,hlits]
    rw [Â (show ([.int .i64 a,.int .i64 b]:List Value).length = 2 from rfl)]
    simp only [List.take_succ_cons,List.take_zero,List.drop_succ_cons,List.drop_zero]
    rw [IV f1 n ha,IV g1 n hb]
    exact ă some (XS a b)
   ·obtain ⟨xs,L,rfl,q1,q2⟩:=keyOf_top hwide hk
    rw [hlits] at q1
    split at q1
    ·rename_i hlen
     obtain ⟨x,q3,q4⟩:=ô.1 q1
     obtain ⟨y,q5,q6⟩:=Á.1 q4
     obtain ⟨a,e1,ha,_⟩:=RG f1 n q3
     obtain ⟨b,e2,hb,_⟩:=RG g1 n q5
     refine ⟨a,b,?_,ha,hb⟩
     obtain ⟨l⟩:=xs
     match l,hlen,e1,e2 with
     | [u,v],_,e1,e2=>cases e1; cases e2; rfl
    ·cases q1
  ·cases h6
 ·cases h6
theorem Q6 {t k e:TypeId} (h:Q7 P t = some (k,e)):P.underlying t = some (.map k e) ∧ GI P k ∧ P.underlying e = some (yD 1) ∧ ∀ w,(zeroValue e).run P w = .ok (.bool false) w:=by
 unfold Q7 at h
 split at h
 ·rename_i k' e' ht
  split at h
  ·rename_i hp
   split at h
   ·rename_i he hz
    cases h
    refine ⟨ht,aLU hp,he,fun w=>?_⟩
    obtain ⟨i,hi,hz⟩:=ô.1 hz
    simp [zeroValue,nN hi,hz,Result.andThen]
   ·cases h
  ·cases h
 ·cases h
theorem aAf {x:V} {n:Int} {xv:Value} (e:V3 x = some n) (hx:R3 h hd bl xv x):∃ a b:Int,xv = .agg #[.int .i64 a,.int .i64 b] ∧ nD a ∧ nD b ∧ n = HR a b:=by
 unfold V3 at e
 split at e
 ·rename_i a b
  split at e
  ·rename_i hq
   cases e
   refine ⟨a,b,?_,hq.1,hq.2,rfl⟩
   obtain ⟨arr,rfl,hs,hc⟩ : ∃ arr,xv = .agg arr ∧ arr.size = 2 ∧ ∀ j x,([V.d (.int .i64 a),V.d (.int .i64 b)]:List V)[j]? = some x->R1 h hd bl (arr.getD j undef) x ∧ (arr.getD j undef).oneCell' = true:=hx
   obtain ⟨⟨_,r0⟩,_⟩:=hc 0 _ rfl
   obtain ⟨⟨_,r1⟩,_⟩:=hc 1 _ rfl
   obtain ⟨l⟩:=arr
   match l,hs,r0,r1 with
   | [u,v],_,r0,r1 =>
    have e0:u = .int .i64 a:=by cases r0; rfl
    have e1:v = .int .i64 b:=by cases r1; rfl
    rw [e0,e1]
  ·cases e
 ·cases e
theorem aLq {x:V} {b:Bool} {xv:Value} (e:aEU x = some b) (hx:R3 h hd bl xv x):xv = .bool b:=by
 unfold aEU at e
 split at e
 ·cases e
  obtain ⟨_,r⟩ : D.atom _ = true ∧ a6 h xv (.bool _):=hx
  cases r
  rfl
 ·cases e
theorem W2 {t k e:TypeId} {m kk x:bO} {mv kv xv:Value} (hK:Q7 P t = some (k,e)) (r:Rl nt w0 h0 fr bl a w h hd) (hm:R3 h hd bl mv (bN fr m)) (hk:R3 h hd bl kv (bN fr kk)) (hx:R3 h hd bl xv (bN fr x)) (dst:Option Nat) (hdst:GB nt w0 dst) (cv:Value)
  (ha:cE C site (bN fr) bl (.mputP m kk x) = some (v,wr)) :
  ∃ w' hd',(Instr.mapUpdate t mv kv xv).run P w = .ok () w' ∧ Rl nt w0 h0 (fB fr dst v) (bQ bl wr) (a.put dst cv) w' h hd':=by
 obtain ⟨t1,t2,t3,t4⟩:=Q6 hK
 simp only [cE] at ha
 split at ha
 ·rename_i id n y hev hkey hy
  split at ha
  ·rename_i l hb
   split at ha
   ·rename_i hc
    cases ha
    rw [hev] at hm
    obtain ⟨_,rfl,g,hg⟩ : (∃ b,bl id = some b ∧ b.isMp = true) ∧ mv = hd id ∧ ∃ g,hd id = .map (some g):=hm
    obtain ⟨p,q,rfl,hp,hq,rfl⟩:=aAf hkey hk
    obtain rfl:=aLq hy hx
    obtain ⟨g',q1,q2,q3,q4⟩:=r.blk id _ hb
    rw [hg] at q1
    cases q1
    obtain ⟨w',e1,e2,e3⟩:=aJi (pL.pair q3) t1 t2 t3 y (by unfold maxLen; omega) hp hq
    obtain ⟨hd',q⟩:=r.setMap dst hdst cv id _ l _ hb g hg (.inr ⟨rfl,e2⟩) e3
    exact ⟨w',hd',by rw [hg]; exact e1,q⟩
   ·cases ha
  ·cases ha
 ·cases ha
theorem aHA {t k e:TypeId} {m kk:bO} {mv kv:Value} (hK:Q7 P t = some (k,e)) (r:Rl nt w0 h0 fr bl a w h hd) (hm:R3 h hd bl mv (bN fr m)) (hk:R3 h hd bl kv (bN fr kk)) (dst:Option Nat) (hdst:GB nt w0 dst)
  (ha:cE C site (bN fr) bl (.mgetP m kk) = some (v,wr)) :
  ∃ cv,(Instr.lookup t mv kv false).run P w = .ok cv w ∧ Rl nt w0 h0 (fB fr dst v) (bQ bl wr) (a.put dst cv) w h hd:=by
 obtain ⟨t1,t2,t3,t4⟩:=Q6 hK
 simp only [cE] at ha
 split at ha
 ·rename_i id n hev hkey
  split at ha
  ·rename_i l hb
   cases ha
   rw [hev] at hm
   obtain ⟨_,rfl,g,hg⟩ : (∃ b,bl id = some b ∧ b.isMp = true) ∧ mv = hd id ∧ ∃ g,hd id = .map (some g):=hm
   obtain ⟨p,q,rfl,hp,hq,rfl⟩:=aAf hkey hk
   obtain ⟨g',q1,q2,q3,q4⟩:=r.blk id _ hb
   rw [q1]
   exact ⟨_,aGl (pL.pair q3) t1 t2 t3 (t4 w) hp hq,r.put0 dst _ _ hdst (Z8 _)⟩
  ·cases ha
 ·cases ha
theorem aF7 {t k e:TypeId} {ek:Nat} (hK:UC P t = some (k,e,ek)) (r:Rl nt w0 h0 fr bl a w h hd) (dst:Option Nat) (hdst:GB nt w0 dst) (ha:cE C site (bN fr) bl (.mkmap ek) = some (v,wr)) :
  ∃ w' hd' cv,(Instr.makeMap t none).run P w = .ok cv w' ∧ Rl nt w0 h0 (fB fr dst v) (bQ bl wr) (a.put dst cv) w' h hd':=by
 simp only [cE] at ha
 split at ha
 ·rename_i hs
  cases ha
  obtain ⟨hd',q⟩:=r.newMap dst hdst site hs ek (aCv (GY hK).2.2.2.1)
  exact ⟨_,hd',_,rfl,q⟩
 ·cases ha
theorem Y9 {t k e:TypeId} {ek:Nat} {m kk x:bO} {mv kv xv:Value} (hK:UC P t = some (k,e,ek)) (r:Rl nt w0 h0 fr bl a w h hd) (hm:R3 h hd bl mv (bN fr m)) (hk:R3 h hd bl kv (bN fr kk)) (hx:R3 h hd bl xv (bN fr x)) (dst:Option Nat) (hdst:GB nt w0 dst) (cv:Value)
  (ha:cE C site (bN fr) bl (.mput ek m kk x) = some (v,wr)) :
  ∃ w' hd',(Instr.mapUpdate t mv kv xv).run P w = .ok () w' ∧ Rl nt w0 h0 (fB fr dst v) (bQ bl wr) (a.put dst cv) w' h hd':=by
 obtain ⟨t1,t2,t3,t4,t5,t6,t7⟩:=GY hK
 simp only [cE] at ha
 split at ha
 ·rename_i id n y hev hkey hy
  split at ha
  ·rename_i ek' l hb
   split at ha
   ·rename_i hc
    obtain ⟨c1,c2,c3⟩:=hc
    subst c2
    cases ha
    rw [hev] at hm
    obtain ⟨_,rfl,g,hg⟩ : (∃ b,bl id = some b ∧ b.isMp = true) ∧ mv = hd id ∧ ∃ g,hd id = .map (some g):=hm
    obtain ⟨rfl,hn⟩:=SB hkey hk
    obtain ⟨rfl,hok⟩:=aNE hy hx
    obtain ⟨g',q1,q2,q3,q4⟩:=r.blk id _ hb
    rw [hg] at q1
    cases q1
    obtain ⟨w',e1,e2,e3⟩:=aOZ q3 t1 t2 t3 c1 hok (by unfold maxLen; omega) hn
    obtain ⟨hd',q⟩:=r.setMap dst hdst cv id _ l _ hb g hg e2 e3
    exact ⟨w',hd',by rw [hg]; exact e1,q⟩
   ·cases ha
  ·cases ha
 ·cases ha
theorem aMq {t k e:TypeId} {ek:Nat} {m kk:bO} {mv kv:Value} (hK:UC P t = some (k,e,ek)) (r:Rl nt w0 h0 fr bl a w h hd) (hm:R3 h hd bl mv (bN fr m)) (hk:R3 h hd bl kv (bN fr kk)) (dst:Option Nat) (hdst:GB nt w0 dst)
  (ha:cE C site (bN fr) bl (.mget (zML ek) m kk) = some (v,wr)) :
  ∃ cv,(Instr.lookup t mv kv false).run P w = .ok cv w ∧ Rl nt w0 h0 (fB fr dst v) (bQ bl wr) (a.put dst cv) w h hd:=by
 obtain ⟨t1,t2,t3,t4,t5,t6,t7⟩:=GY hK
 simp only [cE] at ha
 split at ha
 ·rename_i ek' l n hmp hkey
  split at ha
  ·rename_i hc
   cases ha
   obtain ⟨rfl,hn⟩:=SB hkey hk
   have hl:l = [] ∨ (zML ek).kind = ek':=hc.imp (fun q=>List.isEmpty_iff.1 q) id
   have hE:P.underlying e = some (yD (zML ek).kind):=by rw [t5]; exact t3
   have hR:∀ g,pL w.heap[g]? ek' l->(Instr.lookup t (.map (some g)) (.int .i64 n) false).run P w = .ok (B9 n (zML ek) l).val w:=fun g hg=>aLD hg t1 t2 hE (t7 w) t6 hl hn
   have hfin:∀ mv,(Instr.lookup t mv (.int .i64 n) false).run P w = .ok (B9 n (zML ek) l).val w->∃ cv,(Instr.lookup t mv (.int .i64 n) false).run P w = .ok cv w ∧ Rl nt w0 h0 (fB fr dst (.d (B9 n (zML ek) l).d)) (bQ bl []) (a.put dst cv) w h hd:=fun mv hrun =>
    ⟨_,hrun,r.put0 dst _ _ hdst (Z8 _)⟩
   have hrd:∀ mv,a6 h mv (.mp ek' l)->∃ cv,(Instr.lookup t mv (.int .i64 n) false).run P w = .ok cv w ∧ Rl nt w0 h0 (fB fr dst (.d (B9 n (zML ek) l).d)) (bQ bl []) (a.put dst cv) w h hd:=fun mv hrd=>by
    refine hfin mv ?_
    cases hrd with
    | mp0=>exact aHD t1 t2 (t7 w) hn
    | mp g _ _ hg=>exact hR g (hg.le r.hle)
   unfold VG at hmp
   split at hmp
   ·rename_i ek2 l2 hev
    cases hmp
    rw [hev] at hm
    exact hrd mv hm.2
   ·rename_i id hev
    rw [hev] at hm
    obtain ⟨_,rfl,g,hg⟩ : (∃ b,bl id = some b ∧ b.isMp = true) ∧ mv = hd id ∧ ∃ g,hd id = .map (some g):=hm
    split at hmp
    ·rename_i hb
     cases hmp
     obtain ⟨g',q1,q2,q3,q4⟩:=r.blk id _ hb
     rw [q1]
     exact hfin _ (hR g' q3)
    ·rename_i hb
     cases hmp
     exact hrd _ (r.blk id _ hb)
    ·cases hmp
   ·cases hmp
  ·cases ha
 ·cases ha
theorem aL6 {t k e ty:TypeId} {ek:Nat} {m kk:bO} {mv kv:Value} (hK:UC P t = some (k,e,ek)) (r:Rl nt w0 h0 fr bl a w h hd) (hm:R3 h hd bl mv (bN fr m)) (hk:R3 h hd bl kv (bN fr kk)) (dst:Option Nat) (hdst:GB nt w0 dst)
  (ha:cE C site (bN fr) bl (.mdel ek m kk) = some (v,wr)) :
  ∃ w' hd',(Builtin.delete_ #[t,k] ty #[mv,kv]).run P w = .ok (.tuple #[]) w' ∧ Rl nt w0 h0 (fB fr dst v) (bQ bl wr) (a.put dst (.tuple #[])) w' h hd':=by
 obtain ⟨t1,t2,t3,t4,t5,t6,t7⟩:=GY hK
 simp only [cE] at ha
 split at ha
 ·rename_i n hev hkey
  cases ha
  obtain ⟨rfl,hn⟩:=SB hkey hk
  rw [hev] at hm
  obtain ⟨_,hr⟩ : D.atom _ = true ∧ a6 h mv (.mp 2 []):=hm
  cases hr with
  | mp0 =>
   exact ⟨w,hd,Maps.drop_nil (Go.Maps.int_keyed t2) t1 (Go.Maps.keyOf_int_mk t2 (EJ hn)) ty,r.put0 dst _ _ hdst trivial⟩
  | mp g _ _ hg=>rcases (hg.old (by decide)).1 with q | q <;> cases q
 ·rename_i id n hev hkey
  split at ha
  ·rename_i ek' l hb
   split at ha
   ·rename_i hc
    subst hc
    cases ha
    rw [hev] at hm
    obtain ⟨_,rfl,g,hg⟩ : (∃ b,bl id = some b ∧ b.isMp = true) ∧ mv = hd id ∧ ∃ g,hd id = .map (some g):=hm
    obtain ⟨rfl,hn⟩:=SB hkey hk
    obtain ⟨g',q1,q2,q3,q4⟩:=r.blk id _ hb
    rw [hg] at q1
    cases q1
    obtain ⟨w',e1,e2,e3⟩:=aQm q3 t1 t2 t3 t4 ty hn
    obtain ⟨hd',q⟩:=r.setMap dst hdst (.tuple #[]) id ek' l _ hb g hg e2 e3
    exact ⟨w',hd',by rw [hg]; exact e1,q⟩
   ·cases ha
  ·cases ha
 ·cases ha
end
end Vm
end
end Go.Proofs.YtoefdnkjcfoccaaDoor
