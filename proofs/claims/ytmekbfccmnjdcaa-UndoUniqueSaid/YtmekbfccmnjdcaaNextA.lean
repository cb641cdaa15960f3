/- graph.next: the walk. -/
import Derived.Test.YtmekbfccmnjdcaaNextR
import Derived.Test.YtmekbfccmnjdcaaLays
import Derived.Deep.RegionLaw
import Derived.KernelRfl
set_option linter.unusedVariables false
set_option linter.unusedSimpArgs false
namespace Go.Proofs.Ytmekbfccmnjdcaa
namespace Vm
open Go.RowKit Go.Sort
theorem rowN_len (es:List (Int × Int)) (i:Int):(rowN es i).length ≤ es.length:=by
  unfold rowN
  rw [List.length_map]
  exact List.length_filter_le _ _
theorem ecell_of (w:World) (u v:Value) (e:TypeId) (o:Obj):(((w.alloc (.cells #[u,v] e)).drew).alloc o).cell? ⟨w.heap.size,0,none⟩ = some u:=by
  rw [World.cell?_alloc_past (hn:=show w.heap.size < (w.heap.push (.cells #[u,v] e)).size by rw [Array.size_push]; omega)]
  show (w.alloc (.cells #[u,v] e)).cell? ⟨w.heap.size,0,none⟩ = some u
  rw [cell_of_row _ _ _ _ _ _ (heap_alloc_new w _)]
  rfl
theorem two_alloc (w:World) (o1 o2:Obj):w.heap.size < ((w.alloc o1).drew.alloc o2).heap.size:=by
  show w.heap.size < ((w.heap.push o1).push o2).size
  rw [Array.size_push,Array.size_push]; omega
theorem rowN_step {es:List (Int × Int)} {k:Nat} (hk:k < es.length) (i:Int):rowN (es.take (k + 1)) i = if (ex es k).1 = i then rowN (es.take k) i ++ [(ex es k).2] else rowN (es.take k) i:=by
  unfold rowN ex
  rw [List.take_add_one,List.getD_eq_getElem?_getD,List.getElem?_eq_getElem hk]
  simp only [Option.toList_some,List.filter_append,List.map_append,Option.getD_some]
  by_cases h:es[k].1 = i
  · rw [if_pos h]; simp [h]
  · rw [if_neg h]; simp [h]
theorem next_step {w wr w' : World} {o1 o2:Obj} {n i0 k:Nat} {V:Nat→Value} {es:List (Int × Int)} {va:Option Addr} {vc:Nat} {x1:Int} {g:Nat} {eT eI:TypeId}
    (hX:NX w.heap.size ((wr.alloc o1).drew.alloc o2) g eT eI n V (fun i=>rowN (es.take k) (i:Nat))) (hi:i0 < n)
    (q1:w'.ownsRow w.heap.size eI 1 (.slice va ((rowN (es.take k) (i0:Nat)).length + 1) vc) ((rowN (es.take k) (i0:Nat)).length + 1) ((rowN (es.take k) (i0:Nat)).map (Value.int .i64) ++ [.int .i64 x1]))
    (q2:((wr.alloc o1).drew.alloc o2).grownBy w' (V i0).ownBlock) (q3:∀ j,(Value.slice va ((rowN (es.take k) (i0:Nat)).length + 1) vc).ownBlock = some j→((wr.alloc o1).drew.alloc o2).heap.size ≤ j ∨ (V i0).ownBlock = some j)
    (hk:k < es.length) (e0:(ex es k).1 = (i0:Nat)) (e1:(ex es k).2 = x1) (hB:Below w.heap.size w wr) :
    ∃ V',NX w.heap.size (w'.setCell ⟨g,i0,none⟩ (.slice va ((rowN (es.take k) (i0:Nat)).length + 1) vc)) g eT eI n V' (fun i=>rowN (es.take (k + 1)) (i:Nat)) ∧
      Below w.heap.size w (w'.setCell ⟨g,i0,none⟩ (.slice va ((rowN (es.take k) (i0:Nat)).length + 1) vc)):=by
  have hp:=hX.put hi (ys:=rowN (es.take k) (i0:Nat) ++ [x1]) q2 (by simpa using q1) q3
  refine ⟨_,hp.congr (fun j hj=>rfl) fun j hj=>?_,?_⟩
  · show _ = rowN (es.take (k + 1)) (j:Nat)
    rw [rowN_step hk,e0,e1]
    by_cases c:j = i0
    · subst c; rw [upN_same,if_pos rfl]
    · rw [upN_other _ _ c,if_neg (by omega)]
  · have b1:=hB.alloc hB.size o1
    have b2:=b1.grown (grownBy_drew _ none) b1.size (fun k h=>by cases h)
    have b3:=b2.alloc b2.size o2
    exact (b3.grown q2 b3.size fun j hj=>(hX.vlt hi hj).1).setCell hX.g0 _
theorem sorted_holds {w:World} {b nn:Nat} {os:Array Obj} {zs:List Int} (hH:Holds (Value.int .i64) w b 0 zs.toArray) (hb:b < w.heap.size) :
    Holds (Value.int .i64) (grow (putRow (Value.int .i64) (Sort.ahead w nn) b 0 (zs.mergeSort fun x y=>decide (x ≤ y)).toArray) os) b 0 (zs.mergeSort fun x y=>decide (x ≤ y)).toArray :=
  holds_grow (Value.int .i64) _ os b 0 _ (by simpa [putRow,mapBlock,Sort.ahead] using hb) (holds_putRow (Value.int .i64) _ b 0 _ _ (holds_ahead (Value.int .i64) w nn b 0 _ hH) (by simp))
theorem sorted_step {w wr w2:World} {n k g:Nat} {V:Nat→Value} {R:Nat→List Int} {eT eI:TypeId} {v' : Value} {ys:List Int}
    (hX:NX w.heap.size wr g eT eI n V (fun i=>if i < k then sortU (R i) else R i)) (hk:k < n) (hg:wr.grownBy w2 (V k).ownBlock) (hown:w2.ownsRow w.heap.size eI 1 v' ys.length (ys.map (Value.int .i64)))
    (hw:∀ j,v'.ownBlock = some j→wr.heap.size ≤ j ∨ (V k).ownBlock = some j) (hy:ys = sortU (R k)) (hB:Below w.heap.size w wr) :
    ∃ V',NX w.heap.size (w2.setCell ⟨g,k,none⟩ v') g eT eI n V' (fun i=>if i < k + 1 then sortU (R i) else R i) ∧ Below w.heap.size w (w2.setCell ⟨g,k,none⟩ v'):=by
  have hp:=hX.put hk hg hown hw
  refine ⟨_,hp.congr (fun j hj=>rfl) fun j hj=>?_,(hB.grown hg hB.size fun j hj=>(hX.vlt hk hj).1).setCell hX.g0 _⟩
  by_cases c:j = k
  · subst c; rw [upN_same,if_pos (Nat.lt_succ_self _),hy]
  · rw [upN_other _ _ c]
    by_cases c2:j < k
    · rw [if_pos c2,if_pos (by omega)]
    · rw [if_neg c2,if_neg (by omega)]
theorem nxInfoI:(Try.prog.info? 3).map (fun i=>(i.zero,i.size,i.bytes)) = some (some (.int .i64 0),1,8):=by kernel_rfl
theorem nxInfoS:(Try.prog.info? 24).map (fun i=>(i.zero,i.size,i.bytes)) = some (some (.slice none 0 0),1,24):=by kernel_rfl
theorem step_append_where {P:Program} {ops:Array Oper} {o:Oper} {a:Act} {w:World} {K:Act→World→Prop} {Q:Exit→Act→World→Prop} {E:Prop}
    (hg:o.guard = none) (s x:Operand) (t:TypeId) (hop:o.op = Op.call { callee:=Callee.builtin Builtin.append,args:=#[s,x],argTypes:=#[t,t] })
    (base:Nat) (e:TypeId) (i:TypeInfo) (z:Value) (size bytes:Nat) (ht:P.underlying t = some (.slice e)) (hi:P.info? e = some i) (hz:i.zero = some z)
    (hsize:i.size = size) (hby:i.bytes = bytes) (hzs:z.cells.size = size) (hsz:0 < size)
    (v:Value) (n:Nat) (xs:List Value) (hs:a.eval s = v) (hown:w.ownsRow base e size v n xs)
    (ad:Addr) (m c:Nat) (news:List Value) (hx:a.eval x = .slice (some ad) m c) (hl:news.length = m * size) (hnews:∀ (j:Nat) (u:Value),news[j]? = some u→w.cell? (ad.add j) = some u) (h1:∀ u ∈ news,u.oneCell' = true)
    (h63:n + m ≤ maxLen) (hbytes:(n + m) * bytes ≤ 140737488355328) (hbase:base ≤ w.heap.size)
    (hK:∀ v' w',w'.ownsRow base e size v' (n + m) (xs ++ news)→w.grownBy w' v.ownBlock→(∀ k,v'.ownBlock = some k→w.heap.size ≤ k ∨ v.ownBlock = some k)→K (a.put o.dst v') w') :
    if Region.wanted o (yielded ops a.tmps) = true then Oper.wp P o a w K Q else E:=by
  have hw:Region.wanted o (yielded ops a.tmps) = true:=by simp [Region.wanted,hg]
  rw [if_pos hw]
  obtain ⟨v',w',hr,h2,h3,h4⟩:=run_append_own (P:=P) w base t o.type e i z size bytes ht hi hz hsize hby hzs hsz v n xs hown ad m c news hl hnews h1 h63 hbytes hbase
  have h5:=append_where (t:=t) (ty:=o.type) ht hi hz (by rw [hsize]; exact hown) (by rw [hsize]; exact hl) hnews h1 h63 (by rw [hby]; exact hbytes) hr (fun q1 q2=>h4.2 ⟨q2,q1⟩)
  rw [num_own h2,num_own hown] at h5
  unfold Oper.wp
  simp only [execOp,hop,resolve,invoke,builtin,Sem.run_bind,Sem.run_pure,Result.andThen_ok,List.map_toArray,List.map_cons,List.map_nil,hs,hx,hr]
  exact hK v' w' h2 h3 h5
set_option maxHeartbeats 4000000 in
set_option maxRecDepth 1000000 in
theorem next_walk (n:Nat) (a:Option Addr) (c:Nat) (es:List (Int × Int)) (eb eo:Nat) (w:World) (hn:n ≤ 100000) (hel:es.length ≤ 100000) (ha:es = [] ∨ a = some ⟨eb,eo,none⟩) (hin:∀ j,j < es.length→0 ≤ (ex es j).1 ∧ (ex es j).1 < n)
    (hc:∀ j,j < es.length→w.cell? ⟨eb,eo + j * 2,none⟩ = some (.int .i64 (ex es j).1) ∧ w.cell? ⟨eb,eo + j * 2 + 1,none⟩ = some (.int .i64 (ex es j).2)) :
    Calls Try.prog 57 #[.int .i64 n,.slice a es.length c] w fun e w'=>∃ g V,e = .returned (.slice (some ⟨g,0,none⟩) n n) ∧ NX w.heap.size w' g 24 3 n V (fun i=>sortU (rowN es (i:Nat))) ∧ Below w.heap.size w w':=by
  have hmk:=run_make_row' (P:=Try.prog) 37 24 (.slice none 0 0) 24 Try.underlying37 nxInfoS rfl .i64 .i64 n (by omega) (by omega)
  have hcH:=Lib.hid hc
  have hinH:=Lib.hid hin
  have haH:=Lib.hid ha
  clear hc hin ha
  go_enter Try.func57,Try.ntmps57
  go_wp2_with fail
  clear hmk
  have hst:=NX.start w n 24 3 w.heap.size (Nat.le_refl _)
  have hbe:=(Below.refl w.heap.size w).alloc (Nat.le_refl _) (.cells (madeCells #[.slice none 0 0] n) 24)
  go_loopg [14] es.length (fun g i wr=>∃ k:Nat,k ≤ es.length ∧ g = es.length - k ∧ i = .int .i64 k ∧ ∃ V,NX w.heap.size wr w.heap.size 24 3 n V (fun i=>rowN (es.take k) (i:Nat)) ∧ Below w.heap.size w wr)
  case atStart=>exact ⟨0,Nat.zero_le _,rfl,rfl,_,hst.congr (fun j hj=>rfl) (fun j hj=>rfl),hbe⟩
  case round =>
    clear hst hbe
    obtain ⟨k,hk,rfl,rfl,V,hX,hB⟩:=hrel
    by_cases hkl:k < es.length
    · obtain rfl:a = some ⟨eb,eo,none⟩:=by
        rcases haH.out with q | q
        · rw [q] at hkl; simp at hkl
        · exact q
      have hlt:(k:Int) < (es.length:Int):=by omega
      have hb0:=World.block_lt_of_cell? w _ (hcH.out k hkl).1
      have c0:=(hB.cell (p:=⟨eb,eo + k * 2,none⟩) hb0).trans (hcH.out k hkl).1
      have c1:=(hB.cell (p:=⟨eb,eo + k * 2 + 1,none⟩) hb0).trans (hcH.out k hkl).2
      have hi:=hinH.out k hkl
      generalize hE0:(ex es k).1 = x0 at *
      generalize hE1:(ex es k).2 = x1 at *
      obtain ⟨i0,rfl⟩ : ∃ i0:Nat,x0 = i0:=⟨x0.toNat,by omega⟩
      have hin0:i0 < n:=by omega
      have g1:=hX.cell hin0
      have hbl:=hX.lt
      have HX:=Lib.hid hX
      have HB:=Lib.hid hB
      have HE0:=Lib.hid hE0
      have HE1:=Lib.hid hE1
      have HX1:=Lib.hid ((hX.alloc (.cells #[.int .i64 i0,.int .i64 x1] 44)).drew.alloc (.cells #[.int .i64 x1] 3))
      clear hX hB hE0 hE1
      go_upto_region 5 with fail
      obtain ⟨ti,ht0,ht1,ht2,ht3⟩:=info_parts nxInfoI
      have hsz:wr.heap.size < (wr.alloc (Obj.cells #[Value.int IntKind.i64 i0,Value.int IntKind.i64 x1] 44)).drew.heap.size:=by simp
      have hrl:(rowN (es.take k) (i0:Nat)).length ≤ 100000:=Nat.le_trans (rowN_len _ _) (by simp; omega)
      go_region_law (first
        | (refine step_append_where rfl (.tmp 25) (.tmp 28) 24 rfl w.heap.size 3 ti (.int .i64 0) 1 8 Try.underlying24 ht0 ht1 ht2 ht3 rfl (by omega) (V i0) _ _ rfl (HX1.out.own i0 hin0) ⟨wr.heap.size + 1,0,none⟩ 1 1 [.int .i64 x1] rfl rfl (one_cell _ _ _ _ (by simp)) (by simp [Value.oneCell']) (by unfold maxLen; omega) (by omega) (by simp; omega) ?_
           intro v' w' q1 q2 q3
           obtain ⟨va,vc,rfl⟩:=own_slice q1
           obtain ⟨q4,q5⟩:=HX1.out.mid hin0 q2
           have q6:=(HX.out.side (o:=0) hin0 (Nat.le_refl _) (two_alloc _ _ _) q2).trans (ecell_of _ _ _ _ _)
           have Q1:=Lib.hid q1
           have Q2:=Lib.hid q2
           have Q3:=Lib.hid q3
           clear q1 q2 q3))
      all_goals go_wp2
      all_goals go_roundg (es.length - (k + 1))
      all_goals first
        | (refine ⟨k + 1,by omega,rfl,by simp,?_⟩; exact next_step HX1.out hin0 Q1.out Q2.out Q3.out hkl HE0.out HE1.out HB.out)
        | omega
    · obtain rfl:k = es.length:=by omega
      have hX2:NX w.heap.size wr w.heap.size 24 3 n V (fun i=>rowN es (i:Nat)):=hX.congr (fun j hj=>rfl) fun j hj=>by rw [List.take_length]
      have hlf:((es.length:Int) < (es.length:Int)) = False:=by simp
      clear hX
      have HX:=Lib.hid hX2
      have HB:=Lib.hid hB
      clear hX2 hB
      go_wp2_with fail
      go_loopg [34] n (fun g i wr=>∃ k:Nat,k ≤ n ∧ g = n - k ∧ i = .int .i64 k ∧ ∃ V,NX w.heap.size wr w.heap.size 24 3 n V (fun i=>if i < k then sortU (rowN es (i:Nat)) else rowN es (i:Nat)) ∧ Below w.heap.size w wr)
      case atStart=>exact ⟨0,Nat.zero_le _,rfl,rfl,_,HX.out.congr (fun j hj=>rfl) (fun j hj=>(if_neg (Nat.not_lt_zero _)).symm),HB.out⟩
      case round =>
        obtain ⟨k,hk,rfl,rfl,V,hX,hB⟩:=hrel
        by_cases hkn:k < n
        · have hlt:(k:Int) < (n:Int):=by omega
          have g1:=hX.cell hkn
          have hbl:=hX.lt
          have hown:=hX.own k hkn
          simp only [Nat.lt_irrefl,if_false] at hown
          have hlen:(rowN es (k:Nat)).length ≤ 100000:=Nat.le_trans (rowN_len _ _) hel
          generalize hvk:V k = vk at *
          rcases hown.2 with ⟨rfl,hz⟩ | ⟨b,cap,cur,rfl,hb0,hbb,hcap,hcm,hcs,hct⟩
          · have HX:=Lib.hid hX
            have HB:=Lib.hid hB
            have hfr:=hX.frozen k
            clear hX hB hown
            go_wp2_with (first
              | (go_at_call 80; refine (Try.slices_Sort_int_none none 0 _).mono ?_; rintro e w1 ⟨rfl,rfl⟩)
              | (go_at_call 81; refine (Try.slices_Compact_int_empty none 0 _).mono ?_; rintro e w1 ⟨rfl,rfl⟩))
            have hz' : rowN es (k:Nat) = []:=List.eq_nil_of_length_eq_zero hz
            go_roundg (n - (k + 1))
            case measure=>omega
            case rel =>
              refine ⟨k + 1,by omega,rfl,by simp,?_⟩
              exact sorted_step HX.out hkn (ys:=[]) (grownBy_same _ _) (World.ownsRow_nil _ _ _ _) (fun j h=>by simp [Value.ownBlock] at h) (by rw [hz']; rfl) HB.out
          · have HX:=Lib.hid hX
            have HB:=Lib.hid hB
            have hfr:=hX.frozen k
            have hbl2:b < wr.heap.size:=(Array.getElem?_eq_some_iff.1 hbb).1
            have hH:Hid (Holds (Value.int .i64) wr b 0 (rowN es (k:Nat)).toArray):=holds_of_blockI hbb (by simpa using hct)
            have hown' : Hid (wr.ownsRow w.heap.size 3 1 (.slice (some ⟨b,0,none⟩) (rowN es (k:Nat)).length cap) (rowN es (k:Nat)).length ((rowN es (k:Nat)).map (Value.int .i64))):=hown
            have hvk' : Hid ((V k).ownBlock = some b):=by rw [hvk]; rfl
            have HC:=Lib.hid hcap
            clear hX hB hown hct hbb hvk hcs
            generalize hR:rowN es (k:Nat) = zs at *
            go_wp2_with (first
              | (go_at_call 80; refine (Try.slices_Sort_int b 0 cap zs wr hH.out hbl2 (by omega)).mono ?_; rintro e w1 ⟨rfl,nn,os,rfl⟩
                 have hcomp:=Try.slices_Compact_int b 0 cap _ _ (sorted_holds (nn:=nn) (os:=os) hH.out hbl2) (by rw [List.length_mergeSort]; omega) (by rw [List.length_mergeSort]; exact HC.out)
                 rw [List.length_mergeSort] at hcomp)
              | (go_at_call 81; refine hcomp.mono ?_; rintro e w2 ⟨rfl,q,rfl⟩
                 have hput:=Lib.hid (sorted_put (nn:=nn) (q:=q) (os:=os) hown'.out)
                 obtain ⟨q4,q5⟩:=HX.out.mid hkn (by rw [hvk'.out]; exact hput.out.2)))
            go_roundg (n - (k + 1))
            case measure=>omega
            case rel =>
              refine ⟨k + 1,by omega,rfl,by simp,?_⟩
              exact sorted_step HX.out hkn (by rw [hvk'.out]; exact hput.out.2) hput.out.1 (fun j h=>.inr (by rw [hvk'.out]; exact h)) (by rw [hR]; exact compact_sort zs) HB.out
        · obtain rfl:k = n:=by omega
          have HX:=Lib.hid hX
          have HB:=Lib.hid hB
          clear hX hB
          go_wp2_with fail
          go_ret
          exact ⟨_,V,rfl,HX.out.congr (fun j hj=>rfl) (fun j hj=>if_pos hj),HB.out⟩
theorem next_told:∀ ds x,nextO ds = some x→Sound Try.prog 57 ds x :=
  next_sound ⟨_,Try.func57,by decide,rfl⟩ fun n a c es eb eo w h1 h2 h3 h4 h5=>next_walk n a c es eb eo w h1 h2 h3 h4 h5
end Vm
end Go.Proofs.Ytmekbfccmnjdcaa
