/- 'slices.Sorted(maps.Keys(m))': the two calls, one after the other. -/
import Derived.Test.YtmekbfccmnjdcaaVmH
import Derived.Test.YtmekbfccmnjdcaaVmT
import Derived.Test.YtmekbfccmnjdcaaLays
import Derived.KernelRfl
set_option linter.unusedVariables false
set_option linter.unusedSimpArgs false
namespace Go.Proofs.Ytmekbfccmnjdcaa
namespace Vm
open Go.RowKit Go.Maps Go.Sort Go.Shelf
theorem sorts (m:Nat):AnyZI.SortsIn Try.prog Try.sortedA_ren Fence.wide m :=
 ⟨fun blk off cap ss W hH hblk hsz=>callsIn_wide.2 (Try.slices_Sort_int blk off cap ss W hH hblk hsz),fun p cap W=>callsIn_wide.2 (Try.slices_Sort_int_none p cap W)⟩
theorem keys_call (mb:Option Nat) (w:World):Calls Try.prog 72 #[.map mb] w fun e w'=>e = .returned (.func (.func 111) #[] #[.pointer (some ⟨w.heap.size,0,none⟩)]) ∧ w' = w.alloc (.cells #[.map mb] (Try.keysA_ren.t 23)) :=
 callsIn_wide.1 (AnyZI.keys_in Try.keysA Fence.wide 5 trivial rfl mb w)
theorem ins_sorted (k:Int) (v:ML):∀ l:List (Int × ML),l.Pairwise (fun p q=>p.1 ≤ q.1)→(insG k v l).Pairwise (fun p q=>p.1 ≤ q.1)
 | [],_=>by simp [insG]
 | y :: r,h=>by
  unfold insG
  obtain ⟨h1,h2⟩:=List.pairwise_cons.1 h
  split
  ·rename_i c
   refine List.pairwise_cons.2 ⟨fun z hz=>?_,h⟩
   show k ≤ z.1
   rcases List.mem_cons.1 hz with rfl | hz
   ·omega
   ·have:=h1 z hz; omega
  ·rename_i c
   refine List.pairwise_cons.2 ⟨fun z hz=>?_,ins_sorted k v r h2⟩
   have:∀ (l:List (Int × ML)),z ∈ insG k v l→z = (k,v) ∨ z ∈ l:=by
    intro l
    induction l with
    | nil=>intro q; simp [insG] at q; exact .inl q
    | cons a l ih =>
     intro q
     unfold insG at q
     split at q
     ·rcases List.mem_cons.1 q with q | q
      ·exact .inl q
      ·exact .inr q
     ·rcases List.mem_cons.1 q with q | q
      ·exact .inr (q ▸ List.mem_cons_self ..)
      ·rcases ih q with q | q
       ·exact .inl q
       ·exact .inr (List.mem_cons_of_mem _ q)
   rcases this r hz with rfl | q
   ·show y.1 ≤ k; omega
   ·exact h1 z q
theorem MapIs.sorted {o:Option Obj} {ek:Nat} {m:List (Int × ML)} (h:MapIs o ek m):m.Pairwise (fun p q=>p.1 ≤ q.1):=by
 obtain ⟨_,es,clock,_,_,_,_,rfl⟩:=h
 generalize es.toList.map entM = l
 induction l with
 | nil=>exact .nil
 | cons y r ih=>exact ins_sorted _ _ _ ih
theorem keys_sort {m:List (Int × ML)} (hs:m.Pairwise (fun p q=>p.1 ≤ q.1)) {ss:List Int} (hp:ss.Perm (m.map (·.1))):ss.mergeSort (fun x y=>decide (x ≤ y)) = m.map (·.1):=by
 have h1:(ss.mergeSort fun x y=>decide (x ≤ y)).Pairwise (· ≤ ·):=by
  have:=List.pairwise_mergeSort (le:=fun (x y:Int)=>decide (x ≤ y)) (fun a b c h1 h2=>by simp at *; omega) (fun a b=>by simp; omega) ss
  exact this.imp fun h=>by simpa using h
 have h2:(m.map (·.1)).Pairwise (· ≤ ·):=List.pairwise_map.2 hs
 exact ((List.mergeSort_perm ss _).trans hp).eq_of_pairwise (fun a b _ _ q1 q2=>by omega) h1 h2
theorem intKeys_enc (m:List (Int × ML)):intKeys (encM m) = m.map (·.1):=by
 show (m.map eM).map _ = _
 rw [List.map_map]
 rfl
theorem sorted_call {w:World} {g bx:Nat} {m:List (Int × ML)} (hm:MapIs w.heap[g]? 1 m) (hbx:w.cell? ⟨bx,0,none⟩ = some (.map (some g))) (hlen:m.length < 1000000000000) :
  Calls Try.prog 71 #[.func (.func 111) #[] #[.pointer (some ⟨bx,0,none⟩)]] w fun e w'=>∃ v,e = .returned v ∧ w'.ownsRow w.heap.size 3 1 v (m.map (·.1)).length ((m.map (·.1)).map encZ) ∧ Below w.heap.size w w':=by
 have hlt:bx < w.heap.size:=World.block_lt_of_cell? w _ hbx
 have hown:=hm.owns (P:=Try.prog) (K:=3) (E:=4) Try.underlying3 (show Try.prog.underlying 4 = some (kindT 1) from Try.underlying4)
 have hsz:Maps.size (encM m) = m.length:=by
  show (m.map eM).length = _
  rw [List.length_map]
 have hseq:SeqGives Fence.wide 2 Try.prog 111 #[.pointer (some ⟨bx,0,none⟩)] encZ (fun ss=>ss.Perm (intKeys (encM m))) (Maps.size (encM m)) w :=
  AnyZI.keys_gives (ρ:=Try.keysA_ren) { Try.keysA with } Fence.wide _ trivial rfl (by omega) bx g m.length (encM m) w hlt hbx hown
 have cS:=AnyZI.sorted_in Try.sortedA Fence.wide 5 trivial trivial trivial trivial rfl (by omega) (sorts _) (enters_of Try.func80 (by kernel_rfl) rfl) 111 #[.pointer (some ⟨bx,0,none⟩)] trivial (enters_of Try.func111 (by kernel_rfl) rfl) _ _ (by rw [hsz]; unfold maxLen; omega) (by rw [hsz]; omega) _ hseq
 refine (callsIn_wide.1 cS).mono ?_
 rintro e w' ⟨v,ss,rfl,hS,hrow,_,hb⟩
 rw [intKeys_enc] at hS
 refine ⟨v,rfl,?_,hb⟩
 rw [keys_sort hm.sorted hS] at hrow
 rw [hS.length_eq] at hrow
 exact hrow
theorem sorted_nil {w:World} {bx:Nat} (hbx:w.cell? ⟨bx,0,none⟩ = some (.map none)) :
  Calls Try.prog 71 #[.func (.func 111) #[] #[.pointer (some ⟨bx,0,none⟩)]] w fun e w'=>∃ v,e = .returned v ∧ w'.ownsRow w.heap.size 3 1 v ([]:List Int).length (([]:List Int).map encZ) ∧ Below w.heap.size w w':=by
 have hlt:bx < w.heap.size:=World.block_lt_of_cell? w _ hbx
 have hseq:SeqGives Fence.wide 2 Try.prog 111 #[.pointer (some ⟨bx,0,none⟩)] encZ (fun ss:List Int=>ss = []) 0 w :=
  AnyZI.keys_gives_nil (ρ:=Try.keysA_ren) { Try.keysA with } Fence.wide _ trivial rfl bx w hlt hbx
 have cS:=AnyZI.sorted_in Try.sortedA Fence.wide 5 trivial trivial trivial trivial rfl (by omega) (sorts _) (enters_of Try.func80 (by kernel_rfl) rfl) 111 #[.pointer (some ⟨bx,0,none⟩)] trivial (enters_of Try.func111 (by kernel_rfl) rfl) _ 0 (Nat.zero_le _) (by omega) _ hseq
 refine (callsIn_wide.1 cS).mono ?_
 rintro e w' ⟨v,ss,rfl,rfl,hrow,_,hb⟩
 rw [List.mergeSort_nil] at hrow
 exact ⟨v,rfl,hrow,hb⟩
section
variable {nt:Nat} {w0:Base} {w:World} {h0 h:Hp} {a:Act} {hd:Nat→Value}
theorem wp_call1 {P:Program} {o:Oper} {f d3:Nat} {v:Value} {K:Act→World→Prop} {Q:Exit→Act→World→Prop} (hlow:lowOp P o = .call f [.t d3]) (hop1:∀ x:Operand,lowX x = some (.t d3)→a.eval x = v)
  (hcalls:Calls P f #[v] w fun e w'=>∃ cv,e = .returned cv ∧ K (a.put o.dst cv) w'):o.wp P a w K Q:=by
 obtain ⟨c,fn,hop,hcal,hfn,hl,c1,c2⟩:=lowOp_call hlow
 have hexec:(execOp a.eval o).run P w = .ok (.enter f (c.args.map a.eval)) w:=by
  obtain ⟨bd,hbd⟩:=Option.isSome_iff_exists.1 c2
  simp [execOp,hop,resolve,hcal,Act.eval,Deferred.ofValue,invoke,callFunc,hfn,c1,hbd]
 have hargs:c.args.map a.eval = #[v]:=by
  obtain ⟨m1,m2⟩:=mapM'_some hl
  obtain ⟨x,x1,x2⟩:=mapM'_back hl (show [Opd.t d3][0]? = some (.t d3) from rfl)
  have hsz:c.args.toList.length = 1:=by simpa using m1
  generalize c.args = ar at hsz x1
  obtain ⟨l⟩:=ar
  match l,hsz with
  | [y],_ =>
   simp at x1
   subst x1
   simp [hop1 _ x2]
 unfold Oper.wp
 rw [hexec,hargs]
 simp only [Oper.upon]
 refine hcalls.mono ?_
 rintro en w' ⟨cv,rfl,hk⟩
 exact hk
theorem tmp_of {x:Operand} {d:Nat} (h:lowX x = some (.t d)):a.eval x = a.tmps.getD d undef:=by
 cases x <;> simp [lowX] at h
 ·subst h; rfl
theorem sort_piece {m tk tf ts dst r0:Nat} {dead:List Nat} {oM oK oS oA:Oper} (hM:oM.guard = none ∧ (oM.op = .assign (.tmp m) ∨ oM.op = .move (.tmp m)) ∧ oM.dst = some tk) (hK:oK.guard = none ∧ lowOp Try.prog oK = .call 72 [.t tk] ∧ oK.dst = some tf)
  (hS:oS.guard = none ∧ lowOp Try.prog oS = .call 71 [.t tf] ∧ oS.dst = some ts) (hA:oA.guard = none ∧ (oA.op = .assign (.tmp ts) ∨ oA.op = .move (.tmp ts)) ∧ oA.dst = some dst)
  (hlt:∀ t ∈ [tk,tf,ts,dst],t < nt) (hdead:∀ t ∈ [tk,tf,ts],t ∈ dead) (hne:tf ≠ tk ∧ ts ≠ tf):BodyOk Try.prog nt (.region r0 #[oM,oK,oS,oA] false) (.hand (handSort m dst dead)):=by
 intro C hC n w0 h0 s s' ex a w h hd Q hF he r hQ
 simp only [evalN] at he
 cases hh:handSort m dst dead s with
 | none=>rw [hh] at he; cases he
 | some z =>
  rw [hh] at he
  cases he
  unfold handSort at hh
  split at hh
  ·rename_i ek l hmp
   split at hh
   ·rename_i hc
    obtain ⟨hek,hlen⟩:=hc
    cases hh
    obtain ⟨h2,r2⟩:=frT_ok r m
    have hfm:=r2.frame m
    rw [hmp] at hfm
    obtain ⟨_,hrd⟩ : D.atom _ = true ∧ Reads h2 (a.tmps.getD m undef) (.mp ek l):=hfm
    generalize hmv:a.tmps.getD m undef = mv at hrd
    have q1:tk < nt:=hlt _ (by simp)
    have q2:tf < nt:=hlt _ (by simp)
    have q3:ts < nt:=hlt _ (by simp)
    have q4:dst < nt:=hlt _ (by simp)
    obtain ⟨mb,rfl⟩ : ∃ mb,mv = .map mb:=by cases hrd <;> exact ⟨_,rfl⟩
    refine wp_region ?_
    rw [show List.range (#[oM,oK,oS,oA]:Array Oper).size = [0,1,2,3] from rfl,wpOps_cons]
    refine wpOp_plain (o:=oM) rfl hM.1 ?_
    refine wp_val (execOp_assign hM.2.1) (cv:=.map mb) (w':=w) (by rw [show a.eval (.tmp m) = .map mb from hmv]; rfl) ?_
    rw [hM.2.2]
    obtain ⟨aa,f1,ra,ga,oa⟩:=putS r2 hF q1 (.map mb) .any trivial
    rw [f1,wpOps_cons]
    refine wpOp_plain (o:=oK) rfl hK.1 ?_
    refine wp_call1 hK.2.1 (fun x hx=>(tmp_of hx).trans ga) ((keys_call mb w).mono ?_)
    rintro e w1 ⟨rfl,rfl⟩
    refine ⟨_,rfl,?_⟩
    rw [hK.2.2]
    have hB1:Below w.heap.size w (w.alloc (.cells #[.map mb] (Try.keysA_ren.t 23))):=(Below.refl _ w).alloc (Nat.le_refl _) _
    have rb:=ra.call (some tf) (fun d e=>by cases e; exact ⟨q2,hF _⟩) (.func (.func 111) #[] #[.pointer (some ⟨w.heap.size,0,none⟩)]) .any (Hp.le.refl _) (hle_alloc ra.hle _) (fun _ _=>rfl) hB1 trivial
    rw [← put_get] at rb
    have gb:(aa.put (some tf) (.func (.func 111) #[] #[.pointer (some ⟨w.heap.size,0,none⟩)])).tmps.getD tf undef = .func (.func 111) #[] #[.pointer (some ⟨w.heap.size,0,none⟩)]:=by rw [getD_put' ra q2,if_pos rfl]
    generalize aa.put (some tf) (.func (.func 111) #[] #[.pointer (some ⟨w.heap.size,0,none⟩)]) = ab at rb gb
    have hbx:(w.alloc (.cells #[.map mb] (Try.keysA_ren.t 23))).cell? ⟨w.heap.size,0,none⟩ = some (.map mb):=by
     rw [cell_hw]
     have:=heap_alloc_new w (.cells #[.map mb] (Try.keysA_ren.t 23))
     simp only [Hp.cell,hw,this]
     rfl
    generalize hw1:w.alloc (.cells #[.map mb] (Try.keysA_ren.t 23)) = w1 at rb hbx hB1
    rw [wpOps_cons]
    refine wpOp_plain (o:=oS) rfl hS.1 ?_
    have hsorted:Calls Try.prog 71 #[.func (.func 111) #[] #[.pointer (some ⟨w.heap.size,0,none⟩)]] w1 fun e w'=>∃ v,e = .returned v ∧ w'.ownsRow w1.heap.size 3 1 v (l.map (·.1)).length ((l.map (·.1)).map encZ) ∧ Below w1.heap.size w1 w':=by
     cases hrd with
     | mp0=>exact sorted_nil hbx
     | mp g _ _ hMI =>
      have hek' : ek = 1:=by
       rcases hek with q | q
       ·exact q
       ·rcases hMI.1 with z | z <;> omega
      subst hek'
      exact sorted_call (hMI.le rb.hle) hbx hlen
    refine wp_call1 hS.2.1 (fun x hx=>(tmp_of hx).trans gb) (hsorted.mono ?_)
    rintro e w2 ⟨v,rfl,hown,hB2⟩
    refine ⟨_,rfl,?_⟩
    rw [hS.2.2]
    have hfree:∀ b,w1.heap.size ≤ b→h2 b = none:=fun b hb=>h_fresh rb.hle hb
    have hnv:∀ b,numOf v = some b→w1.heap.size ≤ b:=fun b q=>by rw [num_own hown] at q; exact (hown.lt _ q).1
    have hin:RowsIn h2 1 (l.map fun p=>[D.int .i64 p.1]) ((l.map (·.1)).map encZ):=by
     intro i row hi
     rw [List.getElem?_map,Option.map_eq_some_iff] at hi
     obtain ⟨p,hp,rfl⟩:=hi
     refine ⟨rfl,fun j x hj=>?_⟩
     obtain rfl:j = 0:=by
      have:=(List.getElem?_eq_some_iff.1 hj).1
      simp at this; exact this
     cases hj
     refine ⟨rfl,.int .i64 p.1,?_,.int _ _⟩
     rw [Nat.mul_one,Nat.add_zero,List.getElem?_map,List.getElem?_map,hp]
     rfl
    have hlen2:(l.map fun p=>[D.int .i64 p.1]).length = (l.map (·.1)).length:=by rw [List.length_map,List.length_map]
    have hrd3:Reads (fun b=>if numOf v = some b then w2.heap[b]? else h2 b) v (.sl (l.map fun p=>[D.int .i64 p.1])):=own_reads (ownsOff_of hown) hin hlen2 (by decide) (fun b o e=>by
     show (if numOf v = some b then w2.heap[b]? else h2 b) = some o
     rw [if_neg]
     ·exact e
     ·intro q; rw [hfree b (hnv b q)] at e; cases e) (fun g hg=>by simp [hg])
    have rc:=rb.call (some ts) (fun d e=>by cases e; exact ⟨q3,hF _⟩) v (.d (.sl (l.map fun p=>[D.int .i64 p.1]))) (h':=fun b=>if numOf v = some b then w2.heap[b]? else h2 b) (fun b o e=>by
     show (if numOf v = some b then w2.heap[b]? else h2 b) = some o
     rw [if_neg]
     ·exact e
     ·intro q; rw [hfree b (hnv b q)] at e; cases e) (fun b o e=>by
     change (if numOf v = some b then w2.heap[b]? else h2 b) = some o at e
     split at e
     ·exact e
     ·exact blk_to hB2 (rb.hle b o e)) (fun b hb=>by
     show (if numOf v = some b then w2.heap[b]? else h2 b) = h2 b
     rw [if_neg]
     intro q
     have:=hnv b q
     omega) hB2 ⟨rfl,hrd3⟩
    rw [← put_get] at rc
    have gc:(ab.put (some ts) v).tmps.getD ts undef = v:=by rw [getD_put' rb q3,if_pos rfl]
    generalize ab.put (some ts) v = ac at rc gc
    rw [wpOps_cons]
    refine wpOp_plain (o:=oA) rfl hA.1 ?_
    refine wp_val (execOp_assign hA.2.1) (cv:=v) (w':=w2) (by rw [show ac.eval (.tmp ts) = v from gc]; rfl) ?_
    rw [hA.2.2]
    have hvd:=rc.frame ts
    rw [gc] at hvd
    rw [show ((((frT m s).put (some tk) .any []).put (some tf) .any []).put (some ts) (.d (.sl (l.map fun p=>[D.int .i64 p.1]))) []).get ts = .d (.sl (l.map fun p=>[D.int .i64 p.1])) by rw [put_getS,if_pos rfl]] at hvd
    generalize (l.map fun p=>[D.int .i64 p.1]) = rows at *
    obtain ⟨ad,f4,rd,gd,od⟩:=putS rc hF q4 v (.d (.sl rows)) hvd
    rw [f4]
    refine hQ _ _ _ _ (rd.weak (fun t=>?_) rfl)
    show lk ((dst,_) :: deadL dead (frT m s).fr) .any t = .any ∨ lk ((dst,_) :: deadL dead (frT m s).fr) .any t = _
    simp only [lk]
    by_cases e:t = dst
    ·right
     subst e
     rw [if_pos rfl,put_getS,if_pos rfl]
    ·rw [if_neg e]
     have hd':=deadL_get dead (frT m s) [] t
     change lk (deadL dead (frT m s).fr) .any t = _ at hd'
     rw [hd']
     by_cases q:t ∈ dead
     ·rw [if_pos q]; exact .inl rfl
     ·rw [if_neg q]
      right
      have n1:¬ t = tk:=fun x=>q (x ▸ hdead _ (by simp))
      have n2:¬ t = tf:=fun x=>q (x ▸ hdead _ (by simp))
      have n3:¬ t = ts:=fun x=>q (x ▸ hdead _ (by simp))
      rw [put_getS,if_neg e,put_getS,if_neg n3,put_getS,if_neg n2,put_getS,if_neg n1]
   ·cases hh
  ·cases hh
end
end Vm
end Go.Proofs.Ytmekbfccmnjdcaa
