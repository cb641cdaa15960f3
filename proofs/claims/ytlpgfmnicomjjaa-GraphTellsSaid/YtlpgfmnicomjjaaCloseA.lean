/- The reference's closing: the walks of Edge and closing, by the number of nodes that lack. -/
import Derived.Test.YtlpgfmnicomjjaaCloseD
import Derived.Test.YtlpgfmnicomjjaaNextR
set_option linter.unusedVariables false
set_option linter.unusedSimpArgs false
namespace Go.Proofs.Ytlpgfmnicomjjaa
namespace Vm
open Go.RowKit
def EdgV (w:World) (v:Value) (es:List (Int × Int)):Prop :=
  (∃ a c,v = .slice a 0 c ∧ es = []) ∨ ∃ b off c,v = .slice (some ⟨b,off,none⟩) es.length c ∧ ∀ j,j < es.length→w.cell? ⟨b,off + j * 2,none⟩ = some (.int .i64 (ex es j).1) ∧ w.cell? ⟨b,off + j * 2 + 1,none⟩ = some (.int .i64 (ex es j).2)
theorem EdgV.to {A B:World} (h:Below A.heap.size A B) {v:Value} {es:List (Int × Int)} (k:EdgV A v es):EdgV B v es:=by
  rcases k with k | ⟨b,off,c,rfl,hc⟩
  · exact .inl k
  · exact .inr ⟨b,off,c,rfl,fun j hj=>⟨(h.cell (p:=⟨b,off + j * 2,none⟩) (World.block_lt_of_cell? A _ (hc j hj).1)).trans (hc j hj).1,(h.cell (p:=⟨b,off + j * 2 + 1,none⟩) (World.block_lt_of_cell? A _ (hc j hj).2)).trans (hc j hj).2⟩⟩
theorem edgP_none {es:List (Int × Int)} {a b:Int} (h:∀ j,j < es.length→¬ ((ex es j).1 = a ∧ (ex es j).2 = b)):edgP es a b = false:=by
  unfold edgP
  rw [List.any_eq_false]
  intro e he q
  rw [Bool.and_eq_true,beq_iff_eq,beq_iff_eq] at q
  obtain ⟨j,hj,rfl⟩:=List.mem_iff_getElem.1 he
  exact h j hj (by simpa [ex,hj] using q)
theorem edgP_some {es:List (Int × Int)} {a b:Int} {j:Nat} (hj:j < es.length) (h1:(ex es j).1 = a) (h2:(ex es j).2 = b):edgP es a b = true:=by
  unfold edgP
  rw [List.any_eq_true]
  exact ⟨ex es j,ex_mem hj,by rw [h1,h2]; simp⟩
set_option maxHeartbeats 2000000 in
set_option maxRecDepth 100000 in
theorem edge_calls (v:Value) (a b:Int) (es:List (Int × Int)) (w:World) (h:EdgV w v es) (hl:es.length ≤ 100000) :
    Calls Try.prog 38 #[v,.int .i64 a,.int .i64 b] w fun e w'=>e = .returned (.bool (edgP es a b)) ∧ w = w':=by
  rcases h with ⟨ad,c,rfl,rfl⟩ | ⟨eb,off,c,rfl,hc⟩
  · clear hl
    go_enter Try.func38,Try.ntmps38
    go_wp2
    go_loop [7] (fun i=>i = .int .i64 0) (fun _=>0)
    case atStart=>rfl
    case round =>
      obtain rfl:=hrel
      go_wp2
      go_ret
      exact ⟨rfl,rfl⟩
  · go_enter Try.func38,Try.ntmps38
    go_wp2
    go_loop [7] (fun i=>∃ k:Nat,k ≤ es.length ∧ i = .int .i64 k ∧ ∀ j,j < k→¬ ((ex es j).1 = a ∧ (ex es j).2 = b)) (fun i=>es.length - (intOf i).toNat)
    case atStart=>exact ⟨0,Nat.zero_le _,rfl,fun j hj=>by omega⟩
    case round =>
      obtain ⟨k,hk,rfl,hno⟩:=hrel
      have hnoH:=Lib.hid hno
      have hcH:=Lib.hid hc
      clear hc hno
      by_cases hlt:k < es.length
      · obtain ⟨c0,c1⟩:=hcH.out k hlt
        have H0:=Lib.hid (rfl:(ex es k).1 = (ex es k).1)
        generalize hE0:(ex es k).1 = x0 at *
        generalize hE1:(ex es k).2 = x1 at *
        have HE0:=Lib.hid hE0
        have HE1:=Lib.hid hE1
        clear hE0 hE1 H0
        by_cases e0:x0 = a
        · subst e0
          have hb0:(x0 == x0) = true:=by simp
          by_cases e1:x1 = b
          · subst e1
            have hb1:(x1 == x1) = true:=by simp
            have hid:=Lib.hid (edgP_some hlt HE0.out HE1.out)
            go_wp2
            go_ret
            exact ⟨ret1b hid.out.symm,rfl⟩
          · have hb1:(x1 == b) = false:=by simpa using e1
            have he1:=Lib.hid e1
            clear e1
            go_wp2
            go_round
            case rel=>exact ⟨k + 1,by omega,by go_num,fun j hj=>by
              rcases (by omega:j < k ∨ j = k) with h | rfl
              · exact hnoH.out j h
              · rw [HE1.out]; exact fun q=>he1.out q.2⟩
            case measure=>simp [intOf]; omega
        · have hb0:(x0 == a) = false:=by simpa using e0
          have he0:=Lib.hid e0
          clear e0
          go_wp2
          go_round
          case rel=>exact ⟨k + 1,by omega,by go_num,fun j hj=>by
            rcases (by omega:j < k ∨ j = k) with h | rfl
            · exact hnoH.out j h
            · rw [HE0.out]; exact fun q=>he0.out q.1⟩
          case measure=>simp [intOf]; omega
      · obtain rfl:k = es.length:=by omega
        have hid:=Lib.hid (edgP_none hnoH.out)
        go_wp2
        go_ret
        exact ⟨ret1b hid.out.symm,rfl⟩
def IntsN (n0:Nat) (w:World) (v:Value) (xs:List Int):Prop:=Ints w v xs ∧ (∀ b off n c,v = .slice (some ⟨b,off,none⟩) n c→n0 ≤ b) ∧ ∀ a n c,v = .slice a n c→n ≤ c ∧ (a = none→c = 0)
theorem firstL_step {f:Int→List Int} {b:Int} {d:Nat} (h:f b = []):firstL f b (d + 1) = firstL f (b + 1) d:=by
  rw [firstL,if_pos h]
theorem firstL_here {f:Int→List Int} {b:Int} {d:Nat} (h:f b ≠ []):firstL f b (d + 1) = f b:=by
  rw [firstL,if_neg h]
theorem at0_head (l:List Int):at0 l 0 = headI l:=by simp [at0,headI,List.getD_eq_getElem?_getD]
theorem at0_last (l:List Int):at0 l (l.length - 1) = lastI l:=by simp [at0,lastI,List.getD_eq_getElem?_getD]
theorem ints_at {w:World} {b off c:Nat} {l:List Int} (h:Ints w (.slice (some ⟨b,off,none⟩) l.length c) l) (hl:0 < l.length):∀ j,j < l.length→w.cell? ⟨b,off + j,none⟩ = some (.int .i64 (at0 l j)):=by
  rcases h.2 with ⟨a,c',e,e2⟩ | ⟨b',off',c',e,hc⟩
  · rw [e2] at hl; simp at hl
  · injection e with e1 _ _
    injection e1 with e1
    injection e1 with q1 q2
    subst q1; subst q2
    exact hc
theorem ints_some {w:World} {v:Value} {l:List Int} (h:Ints w v l) (hl:0 < l.length):∃ b off c,v = .slice (some ⟨b,off,none⟩) l.length c:=by
  rcases h.2 with ⟨a,c',e,e2⟩ | ⟨b',off',c',e,hc⟩
  · rw [e2] at hl; simp at hl
  · exact ⟨b',off',c',e⟩
theorem ints_len {w:World} {v:Value} {l:List Int} (h:Ints w v l):∃ a c,v = .slice a l.length c:=by
  rcases h.2 with ⟨a,c',e,e2⟩ | ⟨b',off',c',e,hc⟩
  · rw [e2]; exact ⟨a,c',e⟩
  · exact ⟨_,c',e⟩
theorem ints_src {w:World} {b off c:Nat} {l:List Int} (h:∀ j,j < l.length→w.cell? ⟨b,off + j,none⟩ = some (.int .i64 (at0 l j))):Src w (.slice (some ⟨b,off,none⟩) l.length c) l.length (l.map (Value.int .i64)):=by
  refine ⟨_,c,rfl,fun h=>by simp at h,fun ad e j u hj=>?_⟩
  obtain rfl:=Option.some.inj e
  rw [List.getElem?_map,Option.map_eq_some_iff] at hj
  obtain ⟨y,hy,rfl⟩:=hj
  have hj':=(List.getElem?_eq_some_iff.1 hy)
  rw [Addr.add_lit]
  have:=h j hj'.1
  rw [at0_lt l j hj'.1,hj'.2] at this
  exact this
theorem own_intsC {w:World} {base:Nat} {e:TypeId} {v:Value} {xs:List Int} (h:w.ownsRow base e 1 v xs.length (xs.map (Value.int .i64))) (hl:xs.length ≤ 140737488355328):IntsN base w v xs:=by
  refine ⟨⟨hl,?_⟩,?_,?_⟩
  · rcases h.2 with ⟨rfl,h0⟩ | ⟨g,cap,cur,rfl,hg,hb,h1,h2,h3,h4⟩
    · exact .inl ⟨none,0,rfl,List.eq_nil_of_length_eq_zero h0⟩
    · refine .inr ⟨g,0,cap,rfl,fun j hj=>?_⟩
      have:cur[0 + j]? = some (.int .i64 (at0 xs j)):=by
        have e1:(cur.toList.take (xs.length * 1))[j]? = (xs.map (Value.int .i64))[j]?:=by rw [h4]
        rw [List.getElem?_take_of_lt (by omega)] at e1
        rw [Nat.zero_add,at0_lt xs j hj]
        simpa [hj] using e1
      rw [cell_of_row _ _ _ _ _ _ hb]
      exact this
  · intro b off n c q
    rcases h.2 with ⟨rfl,h0⟩ | ⟨g,cap,cur,rfl,hg,hb,h1,h2,h3,h4⟩
    · cases q
    · cases q; exact hg
  · intro a n c q
    rcases h.2 with ⟨rfl,h0⟩ | ⟨g,cap,cur,rfl,hg,hb,h1,h2,h3,h4⟩
    · cases q; exact ⟨by omega,fun _=>rfl⟩
    · cases q; exact ⟨h1,fun q=>by cases q⟩
theorem clInfoI:(Try.prog.info? 3).map (fun i=>(i.zero,i.size,i.bytes)) = some (some (.int .i64 0),1,8):=by kernel_rfl
theorem close_zero (es:List (Int × Int)) (n:Int) (l:List Int):closeL es n 0 l = if edgP es (lastI l) (headI l) = true then l else []:=rfl
theorem head_app (l:List Int) (b:Int) (h:0 < l.length):headI (l ++ [b]) = headI l:=by
  unfold headI
  rw [List.getD_eq_getElem?_getD,List.getD_eq_getElem?_getD,List.getElem?_append_left h]
theorem own_snoc {w:World} {base:Nat} {e:TypeId} {v:Value} {l:List Int} {x:Int} {k:Nat} (hk:l.length = k) (h:w.ownsRow base e 1 v (0 + k + 1) ([] ++ l.map (Value.int .i64) ++ [.int .i64 x])):w.ownsRow base e 1 v (l ++ [x]).length ((l ++ [x]).map (Value.int .i64)):=by
  have:(l ++ [x]).length = 0 + k + 1:=by rw [List.length_append,hk]; simp
  rw [this,List.map_append]
  exact h
theorem below_up {a b c:World} (h:Below a.heap.size a b) (k:Below b.heap.size b c):Below a.heap.size a c :=
  h.trans (k.mono h.size)
theorem src_one {w:World} {x:Value} {e:TypeId}:Src (w.alloc (.cells #[x] e)) (.slice (some ⟨w.heap.size,0,none⟩) 1 1) 1 [x] :=
  ⟨some ⟨w.heap.size,0,none⟩,1,rfl,(fun q=>by cases q),(fun ad q=>by cases q; exact one_cell _ _ _ _ rfl)⟩
theorem size_alloc_le {w0 w:World} (h:w0.heap.size ≤ w.heap.size) (o:Obj):w0.heap.size ≤ (w.alloc o).heap.size:=by
  show w0.heap.size ≤ (w.heap.push o).size
  rw [Array.size_push]; omega
set_option maxHeartbeats 4000000 in
set_option maxRecDepth 100000 in
theorem closing_calls (n:Int) (hn0:-1000000 ≤ n) (hn:n ≤ 100000) (es:List (Int × Int)) (hel:es.length ≤ 100000):∀ (m:Nat) (vE vl:Value) (l:List Int) (w:World),EdgV w vE es→Ints w vl l→0 < l.length→l.length + m ≤ 100000→-1000000 ≤ headI l→headI l ≤ 1000000 →
    Calls Try.prog 60 #[.int .i64 n,vE,vl,.int .i64 m] w fun e w'=>∃ v,e = .returned v ∧ ((v = vl ∧ closeL es n m l = l) ∨ IntsN w.heap.size w' v (closeL es n m l)) ∧ Below w.heap.size w w':=by
  intro m
  induction m with
  | zero =>
    intro vE vl l w hE hI hl hm h0 h1
    obtain ⟨b,off,c,rfl⟩:=ints_some hI hl
    have hat:=ints_at hI hl
    obtain ⟨k,hk⟩ : ∃ k,l.length = k + 1:=⟨l.length - 1,by omega⟩
    have hkb:k ≤ 100000:=by omega
    have c0:=hat 0 hl
    have c1:=hat k (by omega)
    have hl' : at0 l k = lastI l:=by rw [← at0_last,hk]; rfl
    rw [at0_head] at c0
    rw [hl'] at c1
    rw [hk]
    have hEH:=Lib.hid hE
    clear hE hI hat hl hm
    rw [Nat.add_zero] at c0
    cases hq:edgP es (lastI l) (headI l) with
    | true =>
      have hz:Hid (closeL es n 0 l = l):=by rw [close_zero,if_pos hq]; rfl
      go_enter Try.func60,Try.ntmps60
      go_wp2_with (first
        | (go_at_call 38; refine (edge_calls _ _ _ es _ hEH.out hel).mono ?_; rintro e w1 ⟨rfl,rfl⟩))
      go_ret
      exact ⟨_,rfl,.inl ⟨rfl,hz.out⟩,Below.refl _ _⟩
    | false =>
      have hz:Hid (closeL es n 0 l = []):=by rw [close_zero,if_neg (by rw [hq]; decide)]; rfl
      go_enter Try.func60,Try.ntmps60
      go_wp2_with (first
        | (go_at_call 38; refine (edge_calls _ _ _ es _ hEH.out hel).mono ?_; rintro e w1 ⟨rfl,rfl⟩))
      go_ret
      exact ⟨_,rfl,.inr ⟨by rw [hz.out]; exact Ints.nil _ _ _,(fun b o n c q=>by cases q),(fun a n c q=>by cases q; exact ⟨Nat.le_refl _,fun _=>rfl⟩)⟩,Below.refl _ _⟩
  | succ m ih =>
    intro vE vl l w hE hI hl hm h0 h1
    obtain ⟨b,off,c,rfl⟩:=ints_some hI hl
    have hat:=ints_at hI hl
    obtain ⟨k,hk⟩ : ∃ k,l.length = k + 1:=⟨l.length - 1,by omega⟩
    have hkb:k ≤ 100000:=by omega
    have c0:=hat 0 hl
    have c1:=hat k (by omega)
    have hl' : at0 l k = lastI l:=by rw [← at0_last,hk]; rfl
    rw [at0_head] at c0
    rw [hl'] at c1
    rw [Nat.add_zero] at c0
    have hEH:=Lib.hid hE
    have hatH:=Lib.hid hat
    have hlH:=Lib.hid hl
    have hmH:=Lib.hid hm
    have hkH:=Lib.hid hk
    have ihH:=Lib.hid ih
    rw [hk]
    have hmz:(((m + 1:Nat):Int) == 0) = false:=by rw [beq_eq_false_iff_ne]; omega
    have hcl:Hid (closeL es n (m + 1) l = firstL (fun b=>if edgP es (lastI l) b = true then closeL es n m (l ++ [b]) else []) (headI l + 1) (n - (headI l + 1)).toNat):=rfl
    clear hE hI hat hl hm hk ih hl'
    generalize hF:(fun b=>if edgP es (lastI l) b = true then closeL es n m (l ++ [b]) else []) = F at hcl
    have hFH:=Lib.hid hF
    clear hF
    generalize hH:headI l = hd at *
    generalize hLa:lastI l = la at *
    have hHH:=Lib.hid hH
    have hLH:=Lib.hid hLa
    clear hH hLa
    go_enter Try.func60,Try.ntmps60
    go_wp2_with fail
    clear c0 c1
    go_loopg [10] (n - (hd + 1)).toNat (fun g i wr=>∃ x:Int,hd + 1 ≤ x ∧ x ≤ 1000001 ∧ i = .int .i64 x ∧ g = (n - x).toNat ∧ closeL es n (m + 1) l = firstL F x g ∧ Below w.heap.size w wr)
    case atStart=>exact ⟨hd + 1,Int.le_refl _,by omega,rfl,rfl,hcl.out,Below.refl _ _⟩
    case round =>
      obtain ⟨x,hx1,hx2,rfl,rfl,hq,hB⟩:=hrel
      have HQ:=Lib.hid hq
      have HB:=Lib.hid hB
      clear hq hB hcl
      have hE2:=Lib.hid (hEH.out.to HB.out)
      by_cases hxn:x < n
      · obtain ⟨d,hd0⟩ : ∃ d,(n - x).toNat = d + 1:=⟨(n - x).toNat - 1,by omega⟩
        cases he:edgP es la x with
        | false =>
          have hz:Hid (closeL es n (m + 1) l = firstL F (x + 1) (n - (x + 1)).toNat):=by
            rw [Hid,HQ.out,hd0,firstL_step (by rw [← hFH.out]; simp only [he,Bool.false_eq_true,if_false])]
            congr 1; omega
          go_wp2_with (first
            | (go_at_call 38; refine (edge_calls _ _ _ es _ hE2.out hel).mono ?_; rintro e w1 ⟨rfl,rfl⟩))
          go_roundg (n - (x + 1)).toNat
          case measure=>omega
          case rel=>exact ⟨x + 1,by omega,by omega,rfl,rfl,hz.out,HB.out⟩
        | true =>
          obtain ⟨ti,ht0,ht1,ht2,ht3⟩:=info_parts clInfoI
          have hFx:Hid (F x = closeL es n m (l ++ [x])):=by rw [Hid,← hFH.out]; simp only [he,if_true]
          have hsize:=HB.out.size
          have hsrc:∀ o,Hid (Src (wr.alloc o) (.slice (some ⟨b,off,none⟩) l.length c) l.length (l.map (Value.int .i64))):=fun o=>ints_src fun j hj=>blk_cell _ _ ((HB.out.cell (p:=⟨b,off + j,none⟩) (World.block_lt_of_cell? w _ (hatH.out j hj))).trans (hatH.out j hj))
          have hone:Hid (∀ u ∈ l.map (Value.int .i64),u.oneCell' = true):=by
            intro u hu
            obtain ⟨y,_,rfl⟩:=List.mem_map.1 hu
            rfl
          rw [hkH.out] at hsrc
          have hk1:=hkH.out
          have hm1:=hmH.out
          go_wp2_with (first
            | (go_at_call 38; refine (edge_calls _ _ _ es _ hE2.out hel).mono ?_; rintro e w1 ⟨rfl,rfl⟩)
            | (at_builtin
               refine wpList_append_src rfl (.tmp 42) (.tmp 43) _ rfl w.heap.size 3 ti (.int .i64 0) 1 8 Try.underlying32 ht0 ht1 ht2 ht3 rfl (by omega) _ 0 [] rfl (own_empty _ w.heap.size 3 1 hsize) _ (k + 1) (l.map (Value.int .i64)) rfl (hsrc _).out (by rw [List.length_map,hk1]; omega) hone.out (by omega) (by omega) (by simp; omega) ?_
               intro v44 w44 own1 gr1
               have B1:=Lib.hid ((HB.out.alloc hsize _).grown gr1 (by simp; omega) (own_base (own_empty _ w.heap.size 3 1 hsize)))
               have O1:=Lib.hid own1
               clear own1 gr1 hsrc)
            | (at_builtin
               refine wpList_append_src rfl (.tmp 44) (.tmp 46) _ rfl w.heap.size 3 ti (.int .i64 0) 1 8 Try.underlying32 ht0 ht1 ht2 ht3 rfl (by omega) v44 _ _ rfl (O1.out.alloc _) _ 1 [.int .i64 x] rfl src_one rfl (by simp [Value.oneCell']) (by omega) (by omega) (size_alloc_le B1.out.size _) ?_
               intro v47 w47 own2 gr2
               have B2:=Lib.hid ((B1.out.alloc B1.out.size _).grown gr2 (size_alloc_le B1.out.size _) (own_base O1.out))
               have O2:=Lib.hid (own_snoc hk1 own2)
               clear own2 gr2)
            | (go_at_call 60
               refine (ihH.out vE v47 (l ++ [x]) w47 (hEH.out.to B2.out) (own_intsC O2.out (by rw [List.length_append]; simp; omega)).1 (by simp) (by rw [List.length_append]; simp; omega) (by rw [head_app _ _ hlH.out,hHH.out]; exact h0) (by rw [head_app _ _ hlH.out,hHH.out]; exact h1)).mono ?_
               rintro e w5 ⟨v5,rfl,hv5,hB5⟩
               have B5:=Lib.hid (below_up B2.out hB5)
               have I5:Hid (IntsN w.heap.size w5 v5 (closeL es n m (l ++ [x]))):=by
                 have o2:=own_intsC O2.out (by rw [List.length_append]; simp; omega)
                 rcases hv5 with ⟨rfl,e5⟩ | q
                 · rw [Hid,e5]; exact ⟨o2.1.to hB5,o2.2⟩
                 · exact ⟨q.1,(fun b o n c e=>Nat.le_trans B2.out.size (q.2.1 b o n c e)),q.2.2⟩
               obtain ⟨a5,c5,rfl⟩:=ints_len I5.out.1
               clear hv5 hB5))
          · rename_i hlt5
            have hz:Hid (closeL es n (m + 1) l = closeL es n m (l ++ [x])):=by
              rw [Hid,HQ.out,hd0,firstL_here (by rw [hFx.out]; intro q; rw [q] at hlt5; simp at hlt5),hFx.out]
            go_ret
            exact ⟨_,rfl,.inr (by rw [hz.out]; exact I5.out),B5.out⟩
          · rename_i hlt5
            have hz:Hid (closeL es n (m + 1) l = firstL F (x + 1) (n - (x + 1)).toNat):=by
              rw [Hid,HQ.out,hd0,firstL_step (by rw [hFx.out]; exact List.eq_nil_of_length_eq_zero (by omega))]
              congr 1; omega
            go_roundg (n - (x + 1)).toNat
            case measure=>omega
            case rel=>exact ⟨x + 1,by omega,by omega,rfl,rfl,hz.out,B5.out⟩
      · have hz:Hid (closeL es n (m + 1) l = []):=by rw [Hid,HQ.out,show (n - x).toNat = 0 by omega]; rfl
        go_wp2_with fail
        go_ret
        exact ⟨_,rfl,.inr ⟨by rw [hz.out]; exact Ints.nil _ _ _,(fun b o n c q=>by cases q),(fun a n c q=>by cases q; exact ⟨Nat.le_refl _,fun _=>rfl⟩)⟩,HB.out⟩
theorem dIntsC_at:∀ {rows:List (List D)} {l:List Int},dIntsC rows = some l→rows.length = l.length ∧ ∀ j,j < l.length→rows[j]? = some [.int .i64 (at0 l j)]
  | [],l,e=>by
    simp only [dIntsC,Option.some.injEq] at e
    subst e
    exact ⟨rfl,fun j hj=>by simp at hj⟩
  | row :: r,l,e=>by
    unfold dIntsC at e
    split at e
    · rename_i h; cases h
    · rename_i n r' h
      cases h
      obtain ⟨l',h1,rfl⟩:=Option.map_eq_some_iff.1 e
      obtain ⟨q1,q2⟩:=dIntsC_at h1
      refine ⟨by simp [q1],fun j hj=>?_⟩
      cases j with
      | zero=>simp [at0]
      | succ j =>
        have:=q2 j (by simpa using hj)
        simpa [at0] using this
    · cases e
theorem intsN_reads {n0:Nat} {w:World} {v:Value} {xs:List Int} (h:IntsN n0 w v xs) {k:Hp} (hk:∀ b,n0 ≤ b→k b = w.heap[b]?):Reads k v (.sl (cM cI xs)):=by
  obtain ⟨⟨hl,hx⟩,hb,hz⟩:=h
  rcases hx with ⟨a,c,rfl,rfl⟩ | ⟨b,off,c,rfl,hc⟩
  · exact .sl0 a c (hz a 0 c rfl).2
  · have hlen:(cM cI xs).length = xs.length:=by simp [cM]
    have hin2:∀ (q p:Nat) (r2:List D) (y:D),(cM cI xs)[q]? = some r2→r2[p]? = some y→p = 0 ∧ q < xs.length ∧ y = .int .i64 (at0 xs q) ∧ r2.length = 1:=by
      intro q p r2 y h1 h2
      have hq:q < xs.length:=by rw [← hlen]; exact (List.getElem?_eq_some_iff.1 h1).1
      simp only [cM,List.getElem?_map,List.getElem?_eq_getElem hq,Option.map_some,Option.some.injEq] at h1
      subst h1
      match p,h2 with
      | 0,h2=>cases h2; exact ⟨rfl,hq,by rw [at0_lt xs q hq],rfl⟩
      | p + 1,h2=>simp [cI] at h2
    refine .sl b off c 1 xs.length _ (fun q p=>.int .i64 (at0 xs q)) hlen.symm (by rw [hlen]; exact (hz _ _ _ rfl).1) ?_ ?_ ?_ ?_
    · intro q r2 e
      have hq:q < xs.length:=by rw [← hlen]; exact (List.getElem?_eq_some_iff.1 e).1
      simp only [cM,List.getElem?_map,List.getElem?_eq_getElem hq,Option.map_some,Option.some.injEq] at e
      subst e; rfl
    · intro q r2 p y h1 h2
      obtain ⟨rfl,hq,_⟩:=hin2 q p r2 y h1 h2
      have h3:=hc q hq
      rw [cell_hw] at h3
      have h4:k b = hw w b:=hk b (hb b off _ c rfl)
      unfold Hp.cell at h3 ⊢
      rw [h4]
      simpa using h3
    · intro q r2 p y h1 h2
      obtain ⟨rfl,hq,rfl,_⟩:=hin2 q p r2 y h1 h2
      exact .int _ _
    · intro q r2 p y h1 h2
      rfl
theorem intsC_of {w:World} {v:Value} {rows:List (List D)} {l:List Int} (r:Reads (hw w) v (.sl rows)) (e:dIntsC rows = some l) (hl:l.length ≤ 140737488355328):Ints w v l:=by
  obtain ⟨h1,h2⟩:=dIntsC_at e
  cases r with
  | sl0 a c h0 =>
    have:l = []:=List.eq_nil_of_length_eq_zero h1.symm
    subst this
    exact Ints.nil w a c
  | sl b off c k n rows cv hn hc hk hm hr ho =>
    refine ⟨hl,.inr ⟨b,off,c,by rw [hn,h1],fun j hj=>?_⟩⟩
    have hrow:=h2 j hj
    obtain rfl:k = 1:=(hk j _ hrow).symm
    have hcell:=hm j _ 0 _ hrow rfl
    have hread:=hr j _ 0 _ hrow rfl
    rw [cell_hw]
    simp only [Nat.mul_one,Nat.add_zero] at hcell
    rw [hcell]
    generalize cv j 0 = u at hread
    cases hread
    rfl
theorem edgV_of {w:World} {v:Value} {rows:List (List D)} {es:List (Int × Int)} (r:Reads (hw w) v (.sl rows)) (e:mapM' edgeD rows = some es):EdgV w v es:=by
  obtain ⟨h1,h2⟩:=edges_at e
  cases r with
  | sl0 a c h0=>exact .inl ⟨a,c,rfl,List.eq_nil_of_length_eq_zero h1.symm⟩
  | sl b off c k n rows cv hn hc hk hm hr ho =>
    refine .inr ⟨b,off,c,by rw [hn,h1],fun j hj=>?_⟩
    have hrow:=h2 j hj
    obtain rfl:k = 2:=(hk j _ hrow).symm
    have c0:=hm j _ 0 _ hrow rfl
    have c1:=hm j _ 1 _ hrow rfl
    have q0:=hr j _ 0 _ hrow rfl
    have q1:=hr j _ 1 _ hrow rfl
    rw [cell_hw,cell_hw]
    generalize cv j 0 = u at *
    generalize cv j 1 = u1 at *
    cases q0
    cases q1
    exact ⟨c0,c1⟩
theorem arr4 {vs:Array Value} {d0 d1 d2 d3:D} (h:vs.size = [d0,d1,d2,d3].length):∃ v0 v1 v2 v3,vs = #[v0,v1,v2,v3]:=by
  obtain ⟨l⟩:=vs
  match l,h with
  | [a,b,c,d],_=>exact ⟨a,b,c,d,rfl⟩
theorem dIntsC_inj {rows:List (List D)} {l:List Int} (e:dIntsC rows = some l):rows = cM cI l:=by
  obtain ⟨h1,h2⟩:=dIntsC_at e
  apply List.ext_getElem?
  intro j
  by_cases hj:j < l.length
  · rw [h2 j hj]
    simp only [cM,List.getElem?_map,List.getElem?_eq_getElem hj,Option.map_some]
    rw [at0_lt l j hj]; rfl
  · rw [List.getElem?_eq_none (by omega),List.getElem?_eq_none (by simp [cM]; omega)]
theorem close_told:∀ ds x,closeO ds = some x→Sound Try.prog 60 ds x:=by
  intro ds x e
  unfold closeO at e
  split at e
  · rename_i n rows lr more
    obtain ⟨es,he,e⟩:=Option.bind_eq_some_iff.1 e
    obtain ⟨l,hl,e⟩:=Option.bind_eq_some_iff.1 e
    split at e
    · rename_i hok
      cases e
      have hok:=of_decide_eq_true hok
      obtain ⟨k1,k2,k3,k4,k5,k6,k7,k8⟩:=hok
      refine ⟨⟨_,Try.func60,by decide,rfl⟩,fun w h vs hle hvs hr=>?_⟩
      obtain ⟨v0,v1,v2,v3,rfl⟩:=arr4 hvs
      have r0:Reads h v0 (.int .i64 n):=hr 0 _ rfl
      have r1:Reads h v1 (.sl rows):=hr 1 _ rfl
      have r2:Reads h v2 (.sl lr):=hr 2 _ rfl
      have r3:Reads h v3 (.int .i64 more):=hr 3 _ rfl
      cases r0
      cases r3
      have hmm:((more.toNat:Nat):Int) = more:=Int.toNat_of_nonneg k6
      have hc:=closing_calls n k1 k2 es k3 more.toNat v1 v2 l w (edgV_of (r1.mono hle) he) (intsC_of (r2.mono hle) hl (by omega)) k4 k5 k7 k8
      rw [hmm] at hc
      refine hc.mono ?_
      rintro e w' ⟨v,rfl,hv,hb⟩
      have hfree:∀ b o,h b = some o→b < w.heap.size:=by
        intro b o q
        have:=hle b o q
        unfold hw at this
        exact (Array.getElem?_eq_some_iff.1 this).1
      rcases hv with ⟨rfl,hz⟩ | hv
      · rw [hz]
        refine ⟨_,h,rfl,?_,Hp.le.refl _,fun b o q=>blk_to hb (hle b o q),fun b _=>rfl,hb⟩
        rw [dIntsC_inj hl] at r2
        exact r2
      · refine ⟨_,fun b=>if w.heap.size ≤ b then w'.heap[b]? else h b,rfl,?_,?_,?_,?_,hb⟩
        · exact intsN_reads hv fun b hb'=>if_pos hb'
        · intro b o q
          show (if w.heap.size ≤ b then _ else _) = _
          rw [if_neg (by have:=hfree b o q; omega)]
          exact q
        · intro b o q
          change (if w.heap.size ≤ b then w'.heap[b]? else h b) = some o at q
          split at q
          · exact q
          · exact blk_to hb (hle b o q)
        · intro b hb'
          show (if w.heap.size ≤ b then _ else _) = _
          rw [if_neg (by omega)]
    · cases e
  · cases e
end Vm
end Go.Proofs.Ytlpgfmnicomjjaa
