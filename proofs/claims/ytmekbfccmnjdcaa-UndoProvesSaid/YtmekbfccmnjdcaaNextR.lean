/- graph.next: what its memory reads as, and what it is told to answer. -/
import Derived.Test.YtmekbfccmnjdcaaNextW
import Derived.Test.YtmekbfccmnjdcaaNextS
import Derived.Test.YtmekbfccmnjdcaaVmT
set_option linter.unusedVariables false
set_option linter.unusedSimpArgs false
namespace Go.Proofs.Ytmekbfccmnjdcaa
namespace Vm
open Go.RowKit Go.Sort
def ex (es:List (Int × Int)) (j:Nat):Int × Int:=es.getD j (0,0)
theorem edges_at:∀ {rows:List (List D)} {es:List (Int × Int)},mapM' edgeD rows = some es→rows.length = es.length ∧ ∀ j,j < es.length→rows[j]? = some [.int .i64 (ex es j).1,.int .i64 (ex es j).2]
 | [],es,e=>by
  simp only [mapM',Option.some.injEq] at e
  subst e
  exact ⟨rfl,fun j hj=>by simp at hj⟩
 | row :: r,es,e=>by
  simp only [mapM'] at e
  split at e
  ·cases e
  ·rename_i p hp
   split at e
   ·cases e
   ·rename_i es' he
    cases e
    obtain ⟨q1,q2⟩:=edges_at he
    refine ⟨by simp [q1],fun j hj=>?_⟩
    cases j with
    | zero =>
     unfold edgeD at hp
     split at hp
     ·cases hp; simp [ex]
     ·cases hp
    | succ j =>
     have:=q2 j (by simpa using hj)
     simpa [ex] using this
theorem ex_mem {es:List (Int × Int)} {j:Nat} (h:j < es.length):ex es j ∈ es:=by
 unfold ex
 rw [List.getD_eq_getElem?_getD,List.getElem?_eq_getElem h]
 exact List.getElem_mem h
theorem okE_iff {n:Int} {es:List (Int × Int)} (h:okE n es = true):(0 ≤ n ∧ n ≤ 100000 ∧ es.length ≤ 100000) ∧ ∀ j,j < es.length→0 ≤ (ex es j).1 ∧ (ex es j).1 < n:=by
 unfold okE at h
 rw [Bool.and_eq_true] at h
 refine ⟨of_decide_eq_true h.1,fun j hj=>?_⟩
 have:=List.all_eq_true.1 h.2 _ (ex_mem hj)
 exact of_decide_eq_true this
theorem nx_reads {n0 g:Nat} {w:World} {eT eI:TypeId} {N:Nat} {V:Nat→Value} {rows:Nat→List Int} (h:NX n0 w g eT eI N V rows) {k:Hp} (hk:∀ b,n0 ≤ b→k b = w.heap[b]?) :
  Reads k (.slice (some ⟨g,0,none⟩) N N) (.sl (cM (cL cI) ((List.range N).map rows))):=by
 have hlen:(cM (cL cI) ((List.range N).map rows)).length = N:=by simp [cM]
 have hrow:∀ (i:Nat) (row:List D),(cM (cL cI) ((List.range N).map rows))[i]? = some row→i < N ∧ row = [.sl (cM cI (rows i))]:=by
  intro i row e
  have hi:i < N:=by rw [← hlen]; exact (List.getElem?_eq_some_iff.1 e).1
  simp only [cM,List.getElem?_map,List.getElem?_range hi,Option.map_some,Option.some.injEq] at e
  exact ⟨hi,e.symm⟩
 have hone:∀ (i j:Nat) (row:List D) (x:D),(cM (cL cI) ((List.range N).map rows))[i]? = some row→row[j]? = some x→i < N ∧ j = 0 ∧ x = .sl (cM cI (rows i)):=by
  intro i j row x h1 h2
  obtain ⟨hi,rfl⟩:=hrow i row h1
  match j,h2 with
  | 0,h2=>cases h2; exact ⟨hi,rfl,rfl⟩
  | j + 1,h2=>simp at h2
 refine .sl g 0 N 1 N _ (fun i j=>V i) hlen.symm (by omega) ?_ ?_ ?_ ?_
 ·intro i row e
  obtain ⟨_,rfl⟩:=hrow i row e
  rfl
 ·intro i row j x h1 h2
  obtain ⟨hi,rfl,_⟩:=hone i j row x h1 h2
  have h3:=h.cell hi
  rw [cell_hw] at h3
  have h4:k g = hw w g:=hk g h.g0
  unfold Hp.cell at h3 ⊢
  rw [h4]
  simpa using h3
 ·intro i row j x h1 h2
  obtain ⟨hi,rfl,rfl⟩:=hone i j row x h1 h2
  rcases (h.own i hi).2 with ⟨hv,hz⟩ | ⟨b,cap,cur,hv,hb,hg,hn,hm,hs,ht⟩
  ·rw [hv]
   have:rows i = []:=List.eq_nil_of_length_eq_zero hz
   rw [this]
   exact .sl0 none 0 fun _=>rfl
  ·rw [hv]
   have hl:(cM cI (rows i)).length = (rows i).length:=by simp [cM]
   have hin:∀ (q:Nat) (r2:List D),(cM cI (rows i))[q]? = some r2→∃ hq:q < (rows i).length,r2 = [.int .i64 ((rows i)[q])]:=by
    intro q r2 e
    have hq:q < (rows i).length:=by rw [← hl]; exact (List.getElem?_eq_some_iff.1 e).1
    simp only [cM,List.getElem?_map,List.getElem?_eq_getElem hq,Option.map_some,Option.some.injEq] at e
    exact ⟨hq,e.symm⟩
   have hin2:∀ (q p:Nat) (r2:List D) (y:D),(cM cI (rows i))[q]? = some r2→r2[p]? = some y→p = 0 ∧ q < (rows i).length ∧ y = .int .i64 ((rows i).getD q 0):=by
    intro q p r2 y h1 h2
    obtain ⟨hq,rfl⟩:=hin q r2 h1
    match p,h2 with
    | 0,h2=>cases h2; exact ⟨rfl,hq,by simp [hq]⟩
    | p + 1,h2=>simp at h2
   refine .sl b 0 cap 1 (rows i).length _ (fun q p=>.int .i64 ((rows i).getD q 0)) hl.symm (by omega) ?_ ?_ ?_ ?_
   ·intro q r2 e
    obtain ⟨_,rfl⟩:=hin q r2 e
    rfl
   ·intro q r2 p y h1 h2
    obtain ⟨rfl,hq,_⟩:=hin2 q p r2 y h1 h2
    have h4:k b = some (.cells cur eI (0,0)):=(hk b hb).trans hg
    unfold Hp.cell
    rw [h4]
    have e1:(cur.toList.take ((rows i).length * 1))[q]? = ((rows i).map (Value.int .i64))[q]?:=by rw [ht]
    rw [List.getElem?_take_of_lt (by omega),Array.getElem?_toList,List.getElem?_map,List.getElem?_eq_getElem hq] at e1
    simpa [hq] using e1
   ·intro q r2 p y h1 h2
    obtain ⟨rfl,hq,rfl⟩:=hin2 q p r2 y h1 h2
    exact .int _ _
   ·intro q r2 p y h1 h2
    rfl
 ·intro i row j x h1 h2
  obtain ⟨hi,rfl,rfl⟩:=hone i j row x h1 h2
  exact own_one' (h.own i hi)
theorem next_sound {P:Program} {f:Nat} {eT eI:TypeId} (hg:Goes P f)
  (hwalk:∀ (n:Nat) (a:Option Addr) (c:Nat) (es:List (Int × Int)) (eb eo:Nat) (w:World),n ≤ 100000→es.length ≤ 100000→(es = [] ∨ a = some ⟨eb,eo,none⟩)→(∀ j,j < es.length→0 ≤ (ex es j).1 ∧ (ex es j).1 < n) →
   (∀ j,j < es.length→w.cell? ⟨eb,eo + j * 2,none⟩ = some (.int .i64 (ex es j).1) ∧ w.cell? ⟨eb,eo + j * 2 + 1,none⟩ = some (.int .i64 (ex es j).2)) →
   Calls P f #[.int .i64 n,.slice a es.length c] w fun e w'=>∃ g V,e = .returned (.slice (some ⟨g,0,none⟩) n n) ∧ NX w.heap.size w' g eT eI n V (fun i=>sortU (rowN es (i:Nat))) ∧ Below w.heap.size w w') :
  ∀ ds x,nextO ds = some x→Sound P f ds x:=by
 intro ds x e
 unfold nextO at e
 split at e
 ·rename_i n rows
  obtain ⟨es,he,e⟩:=Option.bind_eq_some_iff.1 e
  split at e
  ·rename_i hok
   cases e
   obtain ⟨⟨hn0,hn1,hel⟩,hin⟩:=okE_iff hok
   obtain ⟨hl,hat⟩:=edges_at he
   refine ⟨hg,fun w h vs hle hvs hr=>?_⟩
   obtain ⟨v0,v1,rfl⟩:=arr2 hvs
   have r0:Reads h v0 (.int .i64 n):=hr 0 _ rfl
   have r1:Reads h v1 (.sl rows):=hr 1 _ rfl
   have hnn:((n.toNat:Nat):Int) = n:=Int.toNat_of_nonneg hn0
   have done:∀ (a:Option Addr) (c eb eo:Nat),(es = [] ∨ a = some ⟨eb,eo,none⟩)→(∀ j,j < es.length→w.cell? ⟨eb,eo + j * 2,none⟩ = some (.int .i64 (ex es j).1) ∧ w.cell? ⟨eb,eo + j * 2 + 1,none⟩ = some (.int .i64 (ex es j).2)) →
     Calls P f #[.int .i64 n,.slice a es.length c] w fun e w'=>∃ v h',e = .returned v ∧ ReadsF (Base.of w) w' h' v (.sl (cM (cL cI) (nextL n.toNat es))) ∧ h.le h' ∧ h'.le (hw w') ∧ (∀ b,b < w.heap.size→h' b = h b) ∧ Below w.heap.size w w':=by
    intro a c eb eo ha hc
    have:=hwalk n.toNat a c es eb eo w (by omega) hel ha (fun j hj=>by rw [hnn]; exact hin j hj) hc
    rw [hnn] at this
    refine this.mono ?_
    rintro e w' ⟨g,V,rfl,hx,hb⟩
    have hfree:∀ b o,h b = some o→b < w.heap.size:=by
     intro b o q
     have:=hle b o q
     unfold hw at this
     exact (Array.getElem?_eq_some_iff.1 this).1
    refine ⟨_,fun b=>if w.heap.size ≤ b then w'.heap[b]? else h b,rfl,?_,?_,?_,?_,hb⟩
    ·exact nx_reads hx fun b hb'=>if_pos hb'
    ·intro b o q
     show (if w.heap.size ≤ b then _ else _) = _
     rw [if_neg (by have:=hfree b o q; omega)]
     exact q
    ·intro b o q
     change (if w.heap.size ≤ b then w'.heap[b]? else h b) = some o at q
     split at q
     ·exact q
     ·exact blk_to hb (hle b o q)
    ·intro b hb'
     show (if w.heap.size ≤ b then _ else _) = _
     rw [if_neg (by omega)]
   cases r0
   cases r1 with
   | sl0 a c h0 =>
    have hes:es = []:=List.eq_nil_of_length_eq_zero hl.symm
    have:=done a c 0 0 (.inl hes) (fun j hj=>by rw [hes] at hj; simp at hj)
    rw [hes] at this ⊢
    exact this
   | sl b off c k m rows cv hm' hcap hk hm hr' ho =>
    subst hm'
    rw [hl]
    refine done (some ⟨b,off,none⟩) c b off (.inr rfl) fun j hj=>?_
    have hrow:=hat j hj
    obtain rfl:k = 2:=(hk j _ hrow).symm
    have c0:=hm j _ 0 _ hrow rfl
    have c1:=hm j _ 1 _ hrow rfl
    have q0:=hr' j _ 0 _ hrow rfl
    have q1:=hr' j _ 1 _ hrow rfl
    have d0:=Hp.cell_le hle c0
    have d1:=Hp.cell_le hle c1
    rw [cell_hw,cell_hw]
    generalize cv j 0 = u at *
    generalize cv j 1 = u1 at *
    cases q0
    cases q1
    exact ⟨d0,d1⟩
  ·cases e
 ·cases e
end Vm
end Go.Proofs.Ytmekbfccmnjdcaa
