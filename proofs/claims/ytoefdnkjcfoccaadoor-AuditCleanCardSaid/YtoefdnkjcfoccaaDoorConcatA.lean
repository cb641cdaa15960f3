/- slices.Concat. -/
import Derived.Test.YtoefdnkjcfoccaaDoorVmT
import Derived.Test.YtoefdnkjcfoccaaDoorVmH
import Derived.Test.YtoefdnkjcfoccaaDoorConcatD
import Derived.Lib.AppendZeros
import Derived.Lib.Walk
import Derived.Lib.SliceRun
import Derived.Lib.Hide
import Derived.Laws.MakeOwn
import Derived.Deep.RegionLaw
import Derived.KernelRfl
namespace Go.Proofs.YtoefdnkjcfoccaaDoor
namespace Vm
open Go.RowKit
theorem aEH:(Tryd.prog.info? 3).map (fun i=>(i.zero,i.size,i.bytes)) = some (some (.int .i64 0),1,8):=by kernel_rfl
theorem TZ (n:Nat):(Builtin.zeroCells #[.int .i64 0] n).size = n:=by simp [Builtin.zeroCells]
set_option maxHeartbeats 1000000 in
set_option maxRecDepth 1000000 in
theorem aHk (n:Nat) (w:World) (hb:n * 8 <= 140737488355328):Calls Tryd.prog 73 #[.slice none 0 0,.int .i64 n] w fun e w'=>∃ v,e = .returned v ∧ w'.ownsRow w.heap.size 3 1 v 0 [] ∧ Below w.heap.size w w':=by
  obtain ⟨i0,hi,hz0,hz1,hz2⟩:=MY aEH
  have h1:¬ ((n:Int) < 0):=by omega
  have h2:wrap64 ((0:Int) - 0) = 0:=by unfold wrap64; omega
  have h3:wrap64 ((n:Int) - 0) = n:=by unfold wrap64; omega
  by_cases hn:n = 0
  · subst hn
    go_enter Tryd.func73,Tryd.ntmps73
    go_wp2
    go_ret
    exact ⟨_,rfl,Ĉ _ _ _ _,Below.refl _ _⟩
  · have h4:(n:Int) > 0:=by omega
    have hrz:∀ ty,(Builtin.append_ #[32,3] ty #[.slice none 0 0,.int .i64 (n:Int)]).run Tryd.prog w = .ok (.slice (some ⟨w.heap.size,0,none⟩) n (grownCap w n 0 3)) (w.drew.alloc (.cells (Builtin.zeroCells #[.int .i64 0] n ++ Builtin.zeroCells #[.int .i64 0] (grownCap w n 0 3 - n)) 3)):=fun ty =>
      Lib.run_append_nil_zeros w 32 3 ty 3 i0 (.int .i64 0) .i64 .i64 Tryd.underlying32 Tryd.underlying3 hi hz0 n (by omega) (by omega) (by omega) (by rw [hz2]; omega)
    have hG:=grownCap_ge w n 0 3
    have hG63:=grownCap_le_maxLen w n 0 3 (by unfold maxLen; omega)
    generalize grownCap w n 0 3 = G at hrz hG hG63
    go_enter Tryd.func73,Tryd.ntmps73
    go_wp2_with (at_builtin; refine Lib.wpList_append_run _ rfl _ _ _ _ rfl _ _ rfl rfl _ _ (hrz _) ?_)
    all_goals go_ret
    all_goals refine ⟨_,rfl,⟨by simp,.inr ⟨w.heap.size,G,_,rfl,Õ _,World.alloc_heap_new _ _,Ĩ _,hG63,?_,by simp⟩⟩,(Below.refl _ _).drew.alloc (Õ _) _⟩
    all_goals rw [ę,TZ,TZ]; omega
set_option maxHeartbeats 4000000 in
set_option maxRecDepth 1000000 in
theorem aL2 (a:Option Addr) (c N T:Nat) (V:Nat->Value) (m sN:Nat->Nat) (news cN:Nat->List Value) (eb eo:Nat) (w:World) (hxl:N <= 4611686018427387904) (hT:T * 8 <= 140737488355328) (ha:N = 0 ∨ a = some ⟨eb,eo,none⟩)
    (hs0:sN 0 = 0) (hs1:∀ k,k < N->sN (k + 1) = sN k + m k) (hsT:∀ k,k <= N->sN k <= T) (hsN:sN N = T) (hc0:cN 0 = []) (hc1:∀ k,k < N->cN (k + 1) = cN k ++ news k)
    (hc:∀ j,j < N->w.cell? ⟨eb,eo + j,none⟩ = some (V j) ∧ Src w (V j) (m j) (news j) ∧ (news j).length = m j * 1 ∧ ∀ u ∈ news j,u.oneCell' = true) :
    Calls Tryd.prog 63 #[.slice a N c] w fun e w'=>∃ v,e = .returned v ∧ w'.ownsRow w.heap.size 3 1 v T (cN N) ∧ Below w.heap.size w w':=by
  have hcH:=Lib.hid hc
  have haH:=Lib.hid ha
  have H1:=Lib.hid hs1
  have HT:=Lib.hid hsT
  have HC:=Lib.hid hc1
  clear hc ha hs1 hsT hc1
  go_enter Tryd.func63,Tryd.ntmps63
  go_wp2_with fail
  go_loopg [3,11] N (fun g i s wr=>∃ k:Nat,k <= N ∧ g = N - k ∧ i = .int .i64 (sN k:Nat) ∧ s = .int .i64 k ∧ wr = w)
  case atStart=>exact ⟨0,Ĩ _,rfl,by rw [hs0]; rfl,rfl,rfl⟩
  case round =>
    obtain ⟨k,hk,rfl,rfl,rfl,hwr⟩:=hrel
    have hwr':=hwr.symm
    subst hwr'
    clear hwr
    have hfl:=HT.out k hk
    by_cases hkl:k < N
    · obtain rfl:a = some ⟨eb,eo,none⟩:=by
        rcases haH.out with q | q
        · omega
        · exact q
      have hlt:(k:Int) < (N:Int):=by omega
      obtain ⟨c0,hs,_,_⟩:=hcH.out k hkl
      obtain ⟨ao,cc,hv,_,_⟩:=hs
      rw [hv] at c0
      have hst:=H1.out k hkl
      have hfl2:=HT.out (k + 1) hkl
      have hw:IntKind.i64.wrap ((sN k:Int) + (m k:Int)) = (sN (k + 1):Int):=by rw [IntKind.wrap_i64]; omega
      have hneg:¬ ((sN (k + 1):Int) < 0):=by omega
      generalize hS1:sN (k + 1) = s1 at *
      have HS1:=Lib.hid hS1
      clear hst hv hS1
      go_wp2_with fail
      all_goals go_roundg (N - (k + 1))
      all_goals first
        | (refine ⟨k + 1,by omega,rfl,?_,by simp,rfl⟩; rw [HS1.out])
        | omega
    · have hkN:N = k:=by omega
      subst hkN
      have hlf:((N:Int) < (N:Int)) = False:=by simp
      have hgw:=aHk (sN N) w (by omega)
      have HsN:=Lib.hid hsN
      clear hsN
      go_wp2_with (go_at_call 73; refine hgw.mono ?_; rintro e w1 ⟨v1,rfl,own1,bel1⟩)
      go_loopg [6,27] N (fun g i s wq=>∃ k:Nat,k <= N ∧ g = N - k ∧ s = .int .i64 k ∧ wq.ownsRow w.heap.size 3 1 i (sN k) (cN k) ∧ Below w.heap.size w wq)
      case atStart=>exact ⟨0,Ĩ _,rfl,rfl,by rw [hs0,hc0]; exact own1,bel1⟩
      case round =>
        clear own1 bel1 hgw
        obtain ⟨k,hk,rfl,rfl,hown,hB⟩:=hrel
        have hfl:=HT.out k hk
        by_cases hkl:k < N
        · obtain rfl:a = some ⟨eb,eo,none⟩:=by
            rcases haH.out with q | q
            · omega
            · exact q
          have hlt:(k:Int) < (N:Int):=by omega
          obtain ⟨c0,hs,hl1,h1c⟩:=hcH.out k hkl
          have hb0:=Ġ w _ c0
          have c1:=(hB.cell (p:=⟨eb,eo + k,none⟩) hb0).trans c0
          obtain ⟨ao,cc,hv,hz,hcs⟩:=hs
          rw [hv] at c1
          have hst:=H1.out k hkl
          have hfl2:=HT.out (k + 1) hkl
          have hcc:=HC.out k hkl
          obtain ⟨i0,hi,hz0,hz1,hz2⟩:=MY aEH
          have hsrc:Hid (Src wr (.slice ao (m k) cc) (m k) (news k)):=⟨ao,cc,rfl,hz,fun ad e j u hj=>by
            have h:=hcs ad e j u hj
            exact (hB.cell (p:=ad.add j) (Ġ w _ h)).trans h⟩
          have HO:=Lib.hid hown
          have HB:=Lib.hid hB
          have HL:=Lib.hid hl1
          have H1C:=Lib.hid h1c
          have HCC:=Lib.hid hcc
          have HST:=Lib.hid hst
          clear hown hB hl1 h1c hcc hst hz hcs c0 hv
          go_wp2_with (first
            | (at_builtin
               refine EL rfl (.tmp 31) (.tmp 32) _ rfl w.heap.size 3 i0 _ 1 8 Tryd.underlying32 hi hz0 hz1 hz2 rfl (by omega) _ (sN k) (cN k) rfl HO.out _ (m k) (news k) rfl hsrc.out HL.out H1C.out ?q2 (by omega) ?q4 ?_
               case q2=>rw [← HST.out]; omega
               case q4=>exact HB.out.size
               intro v8 w8 own8 gr8))
          all_goals go_roundg (N - (k + 1))
          all_goals first
            | (refine ⟨k + 1,by omega,rfl,by simp,?_,?_⟩
               · rw [HST.out,HCC.out]; exact own8
               · exact HB.out.grown gr8 (by exact HB.out.size) (aBA HO.out))
            | omega
        · have hkN:N = k:=by omega
          subst hkN
          have hlf:((N:Int) < (N:Int)) = False:=by simp
          go_wp2_with fail
          go_ret
          rw [HsN.out] at hown
          exact ⟨_,rfl,hown,hB⟩
def rjr:List D->List (List D)
  | [.sl r]=>r
  | _=>[]
def aHM:List D->Value
  | [.int .i64 x]=>.int .i64 x
  | _=>undef
theorem N2 {row:List D} (h:isI row = true):∃ x,row = [.int .i64 x]:=by
  unfold isI at h
  split at h
  · exact ⟨_,rfl⟩
  · cases h
theorem aEx:∀ {rows r:List (List D)},aB5 rows = some r->r = (rows.map rjr).flatten ∧ ∀ row ∈ rows,∃ q,row = [.sl q] ∧ q.all isI = true
  | [],r,h=>by cases h; exact ⟨rfl,fun row q=>by cases q⟩
  | row :: rest,r,h=>by
    unfold aB5 at h
    split at h
    · rename_i q
      split at h
      · rename_i hq
        rw [Á] at h
        obtain ⟨s,h1,rfl⟩:=h
        obtain ⟨e1,e2⟩:=aEx h1
        refine ⟨by rw [á,List.flatten_cons,← e1]; rfl,fun row' hr=>?_⟩
        rcases Û.1 hr with e | e
        · exact ⟨q,e,hq⟩
        · exact e2 row' e
      · cases h
    · cases h
theorem aGL {rows:List (List D)} (h:∀ row ∈ rows,∃ q,row = [.sl q] ∧ q.all isI = true):∀ x ∈ (rows.map rjr).flatten,isI x = true:=by
  intro x hx
  obtain ⟨l,hl,hxl⟩:=List.mem_flatten.1 hx
  obtain ⟨row,hr,rfl⟩:=Þ.1 hl
  obtain ⟨q,rfl,hq⟩:=h row hr
  exact Ì.1 hq x hxl
theorem aMa {h:Hp} {w:World} (hle:h.le (hw w)) {v:Value} {r:List (List D)} (hr:a6 h v (.sl r)) (hI:∀ x ∈ r,isI x = true):Src w v r.length (r.map aHM):=by
  cases hr with
  | sl0 a c h0=>exact ⟨a,c,rfl,fun q=>⟨rfl,h0 q⟩,fun ad e j u hj=>by simp at hj⟩
  | sl b off c k n _ cv hn hc hk hm hrr ho =>
    subst hn
    refine ⟨_,c,rfl,nofun,fun ad e j u hj=>?_⟩
    cases e
    rw [Ç,Á] at hj
    obtain ⟨row,h1,rfl⟩:=hj
    obtain ⟨x,rfl⟩:=N2 (hI row (Ê h1))
    have hk1:=hk j _ h1
    simp only [Ø,List.length_nil] at hk1
    have hk1' : k = 1:=by omega
    subst hk1'
    have h2:=hm j _ 0 _ h1 rfl
    have h3:=hrr j _ 0 _ h1 rfl
    cases h3' : cv j 0 with
    | int kk z =>
      rw [h3'] at h3 h2
      cases h3
      rw [PL,GU]
      have:=Hp.cell_le hle h2
      rw [show off + j * 1 + 0 = off + j by omega] at this
      exact this
    | _=>rw [h3'] at h3; cases h3
theorem ZQ {rows:List (List D)} {k:Nat} {row:List D} (h:rows[k]? = some row):((rows.take (k + 1)).map rjr).flatten = ((rows.take k).map rjr).flatten ++ rjr row:=by
  have hk:=(Å.1 h)
  obtain ⟨h1,h2⟩:=hk
  rw [đ h1,Ă,List.flatten_append,h2]
  simp
theorem aTb {rows:List (List D)} (k:Nat):((rows.take k).map rjr).flatten.length <= (rows.map rjr).flatten.length:=by
  have:rows.map rjr = (rows.take k).map rjr ++ (rows.drop k).map rjr:=by rw [← Ă,List.take_append_drop]
  rw [this,List.flatten_append,ß]; omega
theorem aIP:∀ ds x,aPf ds = some x->uJ Tryd.prog 63 ds x:=by
  intro ds x e
  unfold aPf at e
  split at e
  · rename_i rows
    split at e
    · rename_i r hr
      split at e
      · rename_i hb
        cases e
        obtain ⟨rfl,hrow⟩:=aEx hr
        have hall:=aGL hrow
        refine ⟨⟨_,Tryd.func63,by decide,rfl⟩,fun w h vs hle hsz hrd _=>?_⟩
        obtain ⟨v0,rfl⟩:=aTD hsz
        have r0:a6 h v0 (.sl rows):=hrd 0 _ rfl
        generalize hRr:(rows.map rjr).flatten = R at *
        have hfin:∀ (w' : World) (v:Value),w'.ownsRow w.heap.size 3 1 v R.length (R.map aHM)->Below w.heap.size w w'->∃ h',a6 h' v (.sl R) ∧ h.le h' ∧ h'.le (hw w') ∧ (∀ b,b < w.heap.size->h' b = h b):=by
          intro w' v hown hbel
          have hfree:∀ b,w.heap.size <= b->h b = none:=by
            intro b hb'
            cases e:h b with
            | none=>rfl
            | some o=>have:=hle b o e; unfold hw at this; rw [Array.getElem?_eq_none (by omega)] at this; cases this
          have hin:jE h 1 R (R.map aHM):=by
            refine WG (Ì.2 fun row hr=>?_) (Ì.2 fun row hr=>?_) fun i row h1 j y h2=>?_
            · obtain ⟨z,rfl⟩:=N2 (hall row hr); rfl
            · obtain ⟨z,rfl⟩:=N2 (hall row hr); rfl
            · obtain ⟨z,rfl⟩:=N2 (hall row (Ê h1))
              obtain rfl:j = 0:=by
                rcases j with _ | j
                · rfl
                · simp at h2
              simp only [ï,Ä] at h2
              subst h2
              refine ⟨.int .i64 z,?_,.int _ _⟩
              rw [show i * 1 + 0 = i by omega,Ç,h1]
              rfl
          refine ⟨fun b=>if e9 v = some b then w'.heap[b]? else h b,?_,?_,?_,?_⟩
          · refine WF (w9 hown) hin rfl (by omega) ?_ (fun g hg=>by simp [hg])
            intro b o e
            show (if e9 v = some b then w'.heap[b]? else h b) = some o
            rw [Ã]
            · exact e
            · intro q
              rw [CT hown] at q
              have:=(hown.lt _ q).1
              rw [hfree b this] at e; cases e
          · intro b o e
            show (if e9 v = some b then w'.heap[b]? else h b) = some o
            rw [Ã]
            · exact e
            · intro q
              rw [CT hown] at q
              have:=(hown.lt _ q).1
              rw [hfree b this] at e; cases e
          · intro b o e
            change (if e9 v = some b then w'.heap[b]? else h b) = some o at e
            split at e
            · exact e
            · exact aK8 hbel (hle b o e)
          · intro b hb'
            show (if e9 v = some b then w'.heap[b]? else h b) = h b
            rw [Ã]
            intro q
            rw [CT hown] at q
            have:=(hown.lt _ q).1
            omega
        have main:∀ (a:Option Addr) (c eb eo:Nat) (V:Nat->Value),rows.length <= 4611686018427387904->(rows.length = 0 ∨ a = some ⟨eb,eo,none⟩)->(∀ j row,rows[j]? = some row->w.cell? ⟨eb,eo + j,none⟩ = some (V j) ∧ Src w (V j) (rjr row).length ((rjr row).map aHM)) ->
            Calls Tryd.prog 63 #[.slice a rows.length c] w fun e w'=>∃ v h',e = .returned v ∧ AB (cF.of w) w' h' v (.sl R) ∧ h.le h' ∧ h'.le (hw w') ∧ (∀ b,b < w.heap.size->h' b = h b) ∧ Below w.heap.size w w':=by
          intro a c eb eo V hl ha hV
          have hat:∀ k,k < rows.length->∃ row,rows[k]? = some row:=fun k hk=>⟨_,Ü hk⟩
          refine (aL2 a c rows.length R.length V (fun k=>(rjr (rows.getD k [])).length) (fun k=>((rows.take k).map rjr).flatten.length) (fun k=>(rjr (rows.getD k [])).map aHM) (fun k=>((rows.take k).map rjr).flatten.map aHM) eb eo w hl hb.1 ha (by simp) (fun k hk=>?_) (fun k hk=>?_) (by simp only [ÿ,hRr]) (by simp) (fun k hk=>?_) (fun k hk=>?_)).mono ?_
          · obtain ⟨row,h1⟩:=hat k hk
            simp only [ZQ h1,ß,ä,h1,è]
          · rw [← hRr]; exact aTb k
          · obtain ⟨row,h1⟩:=hat k hk
            simp only [ZQ h1,Ă,ä,h1,è]
          · obtain ⟨row,h1⟩:=hat k hk
            obtain ⟨q1,q2⟩:=hV k row h1
            simp only [ä,h1,è]
            refine ⟨q1,q2,by simp,fun u hu=>?_⟩
            obtain ⟨y,hy,rfl⟩:=Þ.1 hu
            obtain ⟨q,rfl,hq⟩:=hrow row (Ê h1)
            obtain ⟨z,rfl⟩:=N2 (Ì.1 hq y hy)
            rfl
          · rintro e w' ⟨v,rfl,hown,hbel⟩
            simp only [ÿ,hRr] at hown
            obtain ⟨h',q1,q2,q3,q4⟩:=hfin w' v hown hbel
            exact ⟨v,h',rfl,q1,q2,q3,q4,hbel⟩
        cases r0 with
        | sl0 a c h0=>exact main a c 0 0 (fun _=>undef) (by simp) (.inl rfl) (fun j row e=>by simp at e)
        | sl b off c k n _ cv hn hc hk hm hrr ho =>
          subst hn
          refine main _ c b off (fun j=>cv j 0) hb.2 (.inr rfl) fun j row h1=>?_
          obtain ⟨q,rfl,hq⟩:=hrow row (Ê h1)
          have hk1:=hk j _ h1
          simp only [Ø,List.length_nil] at hk1
          have hk1' : k = 1:=by omega
          subst hk1'
          have h2:=hm j _ 0 _ h1 rfl
          have h3:=hrr j _ 0 _ h1 rfl
          refine ⟨?_,aMa hle h3 fun y hy=>Ì.1 hq y hy⟩
          rw [GU]
          have:=Hp.cell_le hle h2
          rw [show off + j * 1 + 0 = off + j by omega] at this
          exact this
      · cases e
    · cases e
  · cases e
end Vm
end Go.Proofs.YtoefdnkjcfoccaaDoor
