/- The walk of calendar.Next. The walks of calendar.Next (every day), calendar.Open and calendar.Plus. The walk of calendar.Count. -/
import Derived.Test.YtibhbfhelfjloaaCalP
set_option linter.unusedVariables false
namespace Go.Proofs.Ytibhbfhelfjloaa
open Go.RowKit Go.Shelf
attribute [local go_sem] Oper.semAt_some
namespace Cal
theorem opens_prefix (c:Town) (d:Int) (k:Nat):∀ n,k ≤ n→∃ r,opens c d n = opens c d k ++ r
 | 0,h=>⟨[],by simp [show k = 0 from by omega]⟩
 | n + 1,h=>by
  rcases (by omega:k = n + 1 ∨ k ≤ n) with rfl | h
  ·exact ⟨[],by simp⟩
  ·obtain ⟨r,e⟩:=opens_prefix c d k n h
   exact ⟨r ++ (if openD c (d + n) then [d + n] else []),by simp only [opens]; rw [e,List.append_assoc]⟩
def nlen (d:Int):Nat:=(min (d + 400) 100000 + 1 - d).toNat
def nxt (c:Town) (d:Int):Option Int:=(opens c d (nlen d)).head?
def got (x:Option Int):Int:=x.getD 0
def gotE (x:Option Int):Int:=if x.isSome then 0 else 3
end Cal
theorem days_calls (cv:Array Value) (c:Town) (a b:Int) (w:World) (hcv:CityV w (.agg cv) c) :
  Calls Try.prog 78 #[.agg cv,.int .i64 a,.int .i64 b] w fun e w' =>
   e = .returned (.func (.func 86) #[] #[.pointer (some ⟨w.heap.size + 1,0,none⟩),.pointer (some ⟨w.heap.size + 2,0,none⟩),.pointer (some ⟨w.heap.size,0,none⟩)]) ∧
   ((w.alloc (.cells cv 78)).alloc (.cells #[.int .i64 a] 3)).alloc (.cells #[.int .i64 b] 3) = w':=by
 obtain ⟨nm,o,cu,r,f,s,e6,i1,i2,i3⟩:=hcv
 obtain ⟨ra,rn,rc,rfl⟩:=i1.slice
 obtain ⟨fa,fn,fc,rfl⟩:=i2.slice
 obtain ⟨sa,sn,sc,rfl⟩:=i3.slice
 clear i1 i2 i3
 simp only [Value.agg.injEq] at e6
 subst e6
 go_enter Try.func78,Try.ntmps78
 go_wp2
 go_ret
 exact ⟨rfl,rfl⟩
theorem days_stops (n:Nat) (hn:1 ≤ n) (Bf Bt Bc:Nat) (c:Town) (cv:Array Value) (from_ to_:Int) (h0:0 ≤ from_) (h9:to_ ≤ 100000) (len:Nat) (hlen:(len:Int) = to_ + 1 - from_ ∨ (len = 0 ∧ to_ < from_)) (hcs:cv.size = 6)
  (w0:World) (hcv:CityV w0 (.agg cv) c) (W:World) (hB:Below w0.heap.size w0 W)
  (hf:W.heap[Bf]? = some (.cells #[.int .i64 from_] 3)) (ht:W.heap[Bt]? = some (.cells #[.int .i64 to_] 3)) (hc:W.heap[Bc]? = some (.cells cv 78)) :
  SeqStopsK Fence.wide n Try.prog 86 #[.pointer (some ⟨Bf,0,none⟩),.pointer (some ⟨Bt,0,none⟩),.pointer (some ⟨Bc,0,none⟩)] (fun x:Int=>#[.int .i64 x]) (KpBox w0.heap.size [Bf,Bt,Bc])
   (fun ys=>ys = Cal.opens c from_ len) (fun pre=>∃ k:Nat,k < len ∧ Cal.openD c (from_ + k) = true ∧ pre = Cal.opens c from_ k ++ [from_ + k]) len W:=fun l J Jx W1 hW hJ _ hY hJ0=>by
 have b1:=(Array.getElem?_eq_some_iff.1 hf).1
 have b2:=(Array.getElem?_eq_some_iff.1 ht).1
 have b3:=(Array.getElem?_eq_some_iff.1 hc).1
 exact days1_in n hn l Bf Bt Bc c cv from_ to_ h0 h9 len hlen hcs w0 hcv J Jx W1 hJ hY (hB.trans (hW.mono hB.size)) ((hW.block Bf b1).trans hf) ((hW.block Bt b2).trans ht) ((hW.block Bc b3).trans hc) hJ0
def NextPost (v e:Int) (w:World) (x:Ending) (w' : World):Prop:=x = .returned (.tuple #[.int .i64 v,.int .i64 e]) ∧ Below w.heap.size w w'
set_option maxRecDepth 100000 in
set_option maxHeartbeats 2000000 in
theorem next_ok (cv:Array Value) (c:Town) (d:Int) (w:World) (hcv:CityV w (.agg cv) c) (h1:0 ≤ d) (h2:d ≤ 100000) :
  Calls Try.prog 69 #[.agg cv,.int .i64 d] w (NextPost (Cal.got (Cal.nxt c d)) (Cal.gotE (Cal.nxt c d)) w):=by
 have hcvH:=Lib.hid hcv
 obtain ⟨nm,o,cu,r,f,s,e6,i1,i2,i3⟩:=hcv
 obtain ⟨ra,rn,rc,rfl⟩:=i1.slice
 obtain ⟨fa,fn,fc,rfl⟩:=i2.slice
 obtain ⟨sa,sn,sc,rfl⟩:=i3.slice
 clear i1 i2 i3
 simp only [Value.agg.injEq] at e6
 subst e6
 obtain ⟨T,hT,hT1,hT2⟩ : ∃ T:Int,(if d + 400 ≤ 100000 then d + 400 else 100000) = T ∧ T ≤ 100000 ∧ (Cal.nlen d:Int) = T + 1 - d:=by
  refine ⟨_,rfl,by split <;> omega,?_⟩
  unfold Cal.nlen; split <;> omega
 have hn:=Lib.hid (show Cal.nxt c d = (Cal.opens c d (Cal.nlen d)).head? from rfl)
 generalize Cal.nxt c d = X at *
 by_cases hle:d + 400 ≤ 100000
 ·rw [if_pos hle] at hT
  subst hT
  refine (callsIn_wide (n:=3)).1 ?_
  refine callsIn_of_wp_marks Try.func69 rfl trivial ?_ rfl
  simp only [Try.ntmps69,List.size_toArray,List.length_cons,List.length_nil,Nat.reduceAdd,Nat.reduceSub,Array.replicate_succ,Array.replicate_zero,List.push_toArray,List.append_toArray,List.nil_append,List.cons_append]
  gi_wp2_with (first
   | (refine ⟨trivial,?_⟩; gi_at_call 77; refine (callsIn_wide.2 (valid_yes _ _ h1 h2)).mono ?_; rintro e w' ⟨rfl,rfl⟩))
  refine ⟨trivial,?_⟩
  refine (callsIn_wide.2 (days_calls _ c _ _ _ ?hci)).mono ?_
  case hci=>exact hcvH.out.to ((((Below.refl _ _).alloc (Nat.le_refl _) _).alloc (by simp) _).alloc (by simp; omega) _)
  rintro e w' ⟨rfl,rfl⟩
  gi_wp2_with fail
  generalize hW5:(((((w.alloc (.cells #[.string nm,.int .i64 o,.int .i64 cu,.slice ra rn rc,.slice fa fn fc,.slice sa sn sc] 78)).alloc (.cells #[.int .i64 0] 3)).alloc (.cells #[.int .i64 0] 39)).alloc (.cells #[.string nm,.int .i64 o,.int .i64 cu,.slice ra rn rc,.slice fa fn fc,.slice sa sn sc] 78)).alloc (.cells #[.int .i64 d] 3)).alloc (.cells #[.int .i64 (d + 400)] 3) = W5
  obtain ⟨z5,-,r1,r2,x3,x4,x5,hB5⟩:=alloc6 _ _ _ _ _ _ _ _ hW5
  clear hW5
  have k1:=(⟨cell_of_blk (o:=0) r1 rfl,frozen_of_blk r1⟩ : W5.cell? ⟨w.heap.size + 1,0,none⟩ = some (.int .i64 0) ∧ W5.frozen? ⟨w.heap.size + 1,0,none⟩ = false)
  have k2:=(⟨cell_of_blk (o:=0) r2 rfl,frozen_of_blk r2⟩ : W5.cell? ⟨w.heap.size + 1 + 1,0,none⟩ = some (.int .i64 0) ∧ W5.frozen? ⟨w.heap.size + 1 + 1,0,none⟩ = false)
  clear r1 r2
  refine wpIn_rangeFunc_ownF rfl (by omega) (gf:=86) (lb:=#[.pointer (some ⟨w.heap.size + 1 + 1 + 1 + 1,0,none⟩),.pointer (some ⟨w.heap.size + 1 + 1 + 1 + 2,0,none⟩),.pointer (some ⟨w.heap.size + 1 + 1 + 1,0,none⟩)]) rfl trivial (enters_of Try.func86 (by kernel_rfl) rfl)
   (days_stops 2 (by omega) _ _ _ c _ d (d + 400) h1 hT1 (Cal.nlen d) (.inl hT2) rfl w hcvH.out W5 hB5 x4 x5 x3) (fun h k=>KpBox.t h k) (KpBox.b hB5.size (by simp; omega)) (Below.refl _ _) (fun _=>rfl)
   (fun pre W=>(pre = [] ∧ (W.cell? ⟨w.heap.size + 1,0,none⟩ = some (.int .i64 0) ∧ W.frozen? ⟨w.heap.size + 1,0,none⟩ = false) ∧ (W.cell? ⟨w.heap.size + 1 + 1,0,none⟩ = some (.int .i64 0) ∧ W.frozen? ⟨w.heap.size + 1 + 1,0,none⟩ = false)) ∧ Below w.heap.size w W)
   (fun c pre W=>(c = .ret ∧ ∃ x,pre = [x] ∧ (W.cell? ⟨w.heap.size + 1,0,none⟩ = some (.int .i64 x) ∧ W.frozen? ⟨w.heap.size + 1,0,none⟩ = false) ∧ (W.cell? ⟨w.heap.size + 1 + 1,0,none⟩ = some (.int .i64 0) ∧ W.frozen? ⟨w.heap.size + 1 + 1,0,none⟩ = false)) ∧ Below w.heap.size w W)
   (OwnFrom.and (Own.from (fun s A B row hs hg hr=>⟨hs.1,one_kept hs.2.1 hg hr,one_kept hs.2.2 hg hr⟩) _) (ownFrom_below (Nat.le_refl _) (by omega)))
   (fun c=>OwnFrom.and (Own.from (fun s A B row hs hg hr=>by obtain ⟨e1,x,e2,s1,s2⟩:=hs; exact ⟨e1,x,e2,one_kept s1 hg hr,one_kept s2 hg hr⟩) _) (ownFrom_below (Nat.le_refl _) (by omega)))
   ⟨⟨rfl,k1,k2⟩,hB5⟩
   (fun x=>{ tmps:=#[.agg #[.string nm,.int .i64 o,.int .i64 cu,.slice ra rn rc,.slice fa fn fc,.slice sa sn sc],.int .i64 d,.pointer (some ⟨w.heap.size,0,none⟩),undef,.pointer (some ⟨w.heap.size + 1,0,none⟩),.pointer (some ⟨w.heap.size + 1 + 1,0,none⟩),.int .i64 x,.int .i64 d,.bool true,.bool false,
    .agg #[.string nm,.int .i64 o,.int .i64 cu,.slice ra rn rc,.slice fa fn fc,.slice sa sn sc],.int .i64 d,.int .i64 d,.int .i64 (d + 400),.int .i64 (d + 400),.func (.func 86) #[] #[.pointer (some ⟨w.heap.size + 1 + 1 + 1 + 1,0,none⟩),.pointer (some ⟨w.heap.size + 1 + 1 + 1 + 2,0,none⟩),.pointer (some ⟨w.heap.size + 1 + 1 + 1,0,none⟩)],.int .i64 x,undef],defers:=[] }) ?assign ?body ?done ?stop
  case assign =>
   intro l x W K hK
   gi_wp2
   exact hK
  case body =>
   rintro l pre x W ⟨⟨rfl,k1,k2⟩,hB⟩ _
   obtain ⟨g1,g2⟩:=two_stores W _ _ (by omega) (.int .i64 x) (.int .i64 0) k1 k2
   obtain ⟨c1,f1⟩:=k1
   obtain ⟨c2,f2⟩:=k2
   gi_wp2
   exact ⟨(KeepsOthers.setCell _ _ _).trans (KeepsOthers.setCell _ _ _),⟨rfl,x,rfl,g1,g2⟩,(hB.setCell (p:=⟨w.heap.size + 1,0,none⟩) (by simp) _).setCell (p:=⟨w.heap.size + 1 + 1,0,none⟩) (by simp; omega) _⟩
  case done =>
   rintro D ys W hD hys ⟨⟨rfl,k1,k2⟩,hB⟩ hK
   have hX:X = none:=by rw [hn.out,← hys]; rfl
   subst hX
   obtain ⟨g1,g2⟩:=two_stores W (w.heap.size + 1) (w.heap.size + 1 + 1) (by omega) (.int .i64 0) (.int .i64 3) k1 k2
   obtain ⟨c1,f1⟩:=k1
   obtain ⟨c2,f2⟩:=k2
   gi_wp2
   have hK':=((KeepsOthers.setCell W ⟨w.heap.size + 1,0,none⟩ (.int .i64 0)).trans (KeepsOthers.setCell _ ⟨w.heap.size + 1 + 1,0,none⟩ (.int .i64 3))).same D _ hK rfl
   refine ⟨by simp,.inl ⟨_,_,rfl,run_takeDeferred hK',?_⟩⟩
   have hc5:=one_kept g1 (grownBy_putObj' _ D (.deferred none)) (fun r e=>by cases e; exact ⟨_,hK',rfl⟩)
   have hc6:=one_kept g2 (grownBy_putObj' _ D (.deferred none)) (fun r e=>by cases e; exact ⟨_,hK',rfl⟩)
   refine ⟨.tuple #[.int .i64 0,.int .i64 3],?_,rfl,((hB.setCell (p:=⟨w.heap.size + 1,0,none⟩) (by simp) _).setCell (p:=⟨w.heap.size + 1 + 1,0,none⟩) (by simp; omega) _).trans (belowK_b (w:=w) (Nat.le_refl _) _ D _ _ (by omega) hK' rfl rfl)⟩
   simp [results,Try.f69,go_sem,hc5.1,hc6.1]
  case stop =>
   rintro D j pre W hD ⟨k,hk,hkD,hpre⟩ ⟨⟨rfl,x,rfl,k1,k2⟩,hB⟩ hK
   have hX:X = some x:=by
    obtain ⟨r,hr⟩:=Cal.opens_prefix c d (k + 1) (Cal.nlen d) hk
    rw [hn.out,hr,Cal.opens_yes c d k hkD,← hpre]; rfl
   subst hX
   gi_wp2
   refine ⟨by simp,.inl ⟨_,_,rfl,run_takeDeferred hK,?_⟩⟩
   have hc5:=one_kept k1 (grownBy_putObj' _ D (.deferred none)) (fun r e=>by cases e; exact ⟨_,hK,rfl⟩)
   have hc6:=one_kept k2 (grownBy_putObj' _ D (.deferred none)) (fun r e=>by cases e; exact ⟨_,hK,rfl⟩)
   refine ⟨.tuple #[.int .i64 x,.int .i64 0],?_,rfl,hB.trans (belowK_b (w:=w) (Nat.le_refl _) _ D _ _ (by omega) hK rfl rfl)⟩
   simp [results,Try.f69,go_sem,hc5.1,hc6.1]
 ·rw [if_neg hle] at hT
  subst hT
  refine (callsIn_wide (n:=3)).1 ?_
  refine callsIn_of_wp_marks Try.func69 rfl trivial ?_ rfl
  simp only [Try.ntmps69,List.size_toArray,List.length_cons,List.length_nil,Nat.reduceAdd,Nat.reduceSub,Array.replicate_succ,Array.replicate_zero,List.push_toArray,List.append_toArray,List.nil_append,List.cons_append]
  gi_wp2_with (first
   | (refine ⟨trivial,?_⟩; gi_at_call 77; refine (callsIn_wide.2 (valid_yes _ _ h1 h2)).mono ?_; rintro e w' ⟨rfl,rfl⟩))
  refine ⟨trivial,?_⟩
  refine (callsIn_wide.2 (days_calls _ c _ _ _ ?hci)).mono ?_
  case hci=>exact hcvH.out.to ((((Below.refl _ _).alloc (Nat.le_refl _) _).alloc (by simp) _).alloc (by simp; omega) _)
  rintro e w' ⟨rfl,rfl⟩
  gi_wp2_with fail
  generalize hW5:(((((w.alloc (.cells #[.string nm,.int .i64 o,.int .i64 cu,.slice ra rn rc,.slice fa fn fc,.slice sa sn sc] 78)).alloc (.cells #[.int .i64 0] 3)).alloc (.cells #[.int .i64 0] 39)).alloc (.cells #[.string nm,.int .i64 o,.int .i64 cu,.slice ra rn rc,.slice fa fn fc,.slice sa sn sc] 78)).alloc (.cells #[.int .i64 d] 3)).alloc (.cells #[.int .i64 100000] 3) = W5
  obtain ⟨z5,-,r1,r2,x3,x4,x5,hB5⟩:=alloc6 _ _ _ _ _ _ _ _ hW5
  clear hW5
  have k1:=(⟨cell_of_blk (o:=0) r1 rfl,frozen_of_blk r1⟩ : W5.cell? ⟨w.heap.size + 1,0,none⟩ = some (.int .i64 0) ∧ W5.frozen? ⟨w.heap.size + 1,0,none⟩ = false)
  have k2:=(⟨cell_of_blk (o:=0) r2 rfl,frozen_of_blk r2⟩ : W5.cell? ⟨w.heap.size + 1 + 1,0,none⟩ = some (.int .i64 0) ∧ W5.frozen? ⟨w.heap.size + 1 + 1,0,none⟩ = false)
  clear r1 r2
  refine wpIn_rangeFunc_ownF rfl (by omega) (gf:=86) (lb:=#[.pointer (some ⟨w.heap.size + 1 + 1 + 1 + 1,0,none⟩),.pointer (some ⟨w.heap.size + 1 + 1 + 1 + 2,0,none⟩),.pointer (some ⟨w.heap.size + 1 + 1 + 1,0,none⟩)]) rfl trivial (enters_of Try.func86 (by kernel_rfl) rfl)
   (days_stops 2 (by omega) _ _ _ c _ d 100000 h1 hT1 (Cal.nlen d) (.inl hT2) rfl w hcvH.out W5 hB5 x4 x5 x3) (fun h k=>KpBox.t h k) (KpBox.b hB5.size (by simp; omega)) (Below.refl _ _) (fun _=>rfl)
   (fun pre W=>(pre = [] ∧ (W.cell? ⟨w.heap.size + 1,0,none⟩ = some (.int .i64 0) ∧ W.frozen? ⟨w.heap.size + 1,0,none⟩ = false) ∧ (W.cell? ⟨w.heap.size + 1 + 1,0,none⟩ = some (.int .i64 0) ∧ W.frozen? ⟨w.heap.size + 1 + 1,0,none⟩ = false)) ∧ Below w.heap.size w W)
   (fun c pre W=>(c = .ret ∧ ∃ x,pre = [x] ∧ (W.cell? ⟨w.heap.size + 1,0,none⟩ = some (.int .i64 x) ∧ W.frozen? ⟨w.heap.size + 1,0,none⟩ = false) ∧ (W.cell? ⟨w.heap.size + 1 + 1,0,none⟩ = some (.int .i64 0) ∧ W.frozen? ⟨w.heap.size + 1 + 1,0,none⟩ = false)) ∧ Below w.heap.size w W)
   (OwnFrom.and (Own.from (fun s A B row hs hg hr=>⟨hs.1,one_kept hs.2.1 hg hr,one_kept hs.2.2 hg hr⟩) _) (ownFrom_below (Nat.le_refl _) (by omega)))
   (fun c=>OwnFrom.and (Own.from (fun s A B row hs hg hr=>by obtain ⟨e1,x,e2,s1,s2⟩:=hs; exact ⟨e1,x,e2,one_kept s1 hg hr,one_kept s2 hg hr⟩) _) (ownFrom_below (Nat.le_refl _) (by omega)))
   ⟨⟨rfl,k1,k2⟩,hB5⟩
   (fun x=>{ tmps:=#[.agg #[.string nm,.int .i64 o,.int .i64 cu,.slice ra rn rc,.slice fa fn fc,.slice sa sn sc],.int .i64 d,.pointer (some ⟨w.heap.size,0,none⟩),undef,.pointer (some ⟨w.heap.size + 1,0,none⟩),.pointer (some ⟨w.heap.size + 1 + 1,0,none⟩),.int .i64 x,.int .i64 d,.bool true,.bool false,
    .agg #[.string nm,.int .i64 o,.int .i64 cu,.slice ra rn rc,.slice fa fn fc,.slice sa sn sc],.int .i64 d,.int .i64 d,.int .i64 (d + 400),.int .i64 100000,.func (.func 86) #[] #[.pointer (some ⟨w.heap.size + 1 + 1 + 1 + 1,0,none⟩),.pointer (some ⟨w.heap.size + 1 + 1 + 1 + 2,0,none⟩),.pointer (some ⟨w.heap.size + 1 + 1 + 1,0,none⟩)],.int .i64 x,undef],defers:=[] }) ?assign ?body ?done ?stop
  case assign =>
   intro l x W K hK
   gi_wp2
   exact hK
  case body =>
   rintro l pre x W ⟨⟨rfl,k1,k2⟩,hB⟩ _
   obtain ⟨g1,g2⟩:=two_stores W _ _ (by omega) (.int .i64 x) (.int .i64 0) k1 k2
   obtain ⟨c1,f1⟩:=k1
   obtain ⟨c2,f2⟩:=k2
   gi_wp2
   exact ⟨(KeepsOthers.setCell _ _ _).trans (KeepsOthers.setCell _ _ _),⟨rfl,x,rfl,g1,g2⟩,(hB.setCell (p:=⟨w.heap.size + 1,0,none⟩) (by simp) _).setCell (p:=⟨w.heap.size + 1 + 1,0,none⟩) (by simp; omega) _⟩
  case done =>
   rintro D ys W hD hys ⟨⟨rfl,k1,k2⟩,hB⟩ hK
   have hX:X = none:=by rw [hn.out,← hys]; rfl
   subst hX
   obtain ⟨g1,g2⟩:=two_stores W (w.heap.size + 1) (w.heap.size + 1 + 1) (by omega) (.int .i64 0) (.int .i64 3) k1 k2
   obtain ⟨c1,f1⟩:=k1
   obtain ⟨c2,f2⟩:=k2
   gi_wp2
   have hK':=((KeepsOthers.setCell W ⟨w.heap.size + 1,0,none⟩ (.int .i64 0)).trans (KeepsOthers.setCell _ ⟨w.heap.size + 1 + 1,0,none⟩ (.int .i64 3))).same D _ hK rfl
   refine ⟨by simp,.inl ⟨_,_,rfl,run_takeDeferred hK',?_⟩⟩
   have hc5:=one_kept g1 (grownBy_putObj' _ D (.deferred none)) (fun r e=>by cases e; exact ⟨_,hK',rfl⟩)
   have hc6:=one_kept g2 (grownBy_putObj' _ D (.deferred none)) (fun r e=>by cases e; exact ⟨_,hK',rfl⟩)
   refine ⟨.tuple #[.int .i64 0,.int .i64 3],?_,rfl,((hB.setCell (p:=⟨w.heap.size + 1,0,none⟩) (by simp) _).setCell (p:=⟨w.heap.size + 1 + 1,0,none⟩) (by simp; omega) _).trans (belowK_b (w:=w) (Nat.le_refl _) _ D _ _ (by omega) hK' rfl rfl)⟩
   simp [results,Try.f69,go_sem,hc5.1,hc6.1]
  case stop =>
   rintro D j pre W hD ⟨k,hk,hkD,hpre⟩ ⟨⟨rfl,x,rfl,k1,k2⟩,hB⟩ hK
   have hX:X = some x:=by
    obtain ⟨r,hr⟩:=Cal.opens_prefix c d (k + 1) (Cal.nlen d) hk
    rw [hn.out,hr,Cal.opens_yes c d k hkD,← hpre]; rfl
   subst hX
   gi_wp2
   refine ⟨by simp,.inl ⟨_,_,rfl,run_takeDeferred hK,?_⟩⟩
   have hc5:=one_kept k1 (grownBy_putObj' _ D (.deferred none)) (fun r e=>by cases e; exact ⟨_,hK,rfl⟩)
   have hc6:=one_kept k2 (grownBy_putObj' _ D (.deferred none)) (fun r e=>by cases e; exact ⟨_,hK,rfl⟩)
   refine ⟨.tuple #[.int .i64 x,.int .i64 0],?_,rfl,hB.trans (belowK_b (w:=w) (Nat.le_refl _) _ D _ _ (by omega) hK rfl rfl)⟩
   simp [results,Try.f69,go_sem,hc5.1,hc6.1]
end Go.Proofs.Ytibhbfhelfjloaa
set_option linter.unusedVariables false
namespace Go.Proofs.Ytibhbfhelfjloaa
open Go.RowKit
namespace Cal
def nx1 (c:Town) (d:Int):Option Int:=if okDay d then nxt c d else none
theorem opens_mem (c:Town) (d:Int):∀ (k:Nat) (x:Int),x ∈ opens c d k ↔ (d ≤ x ∧ x < d + k ∧ openD c x = true)
 | 0,x=>by simp [opens]; omega
 | k + 1,x=>by
  rw [show opens c d (k + 1) = opens c d k ++ (if openD c (d + k) then [d + k] else []) from rfl,List.mem_append,opens_mem c d k x]
  by_cases hx:x = d + k
  ·subst hx
   cases openD c (d + k) <;> simp <;> omega
  ·have:x ∉ (if openD c (d + k) then [d + k] else []):=by split <;> simp [hx]
   simp only [this,or_false]
   constructor
   ·rintro ⟨a,b,e⟩; exact ⟨a,by omega,e⟩
   ·rintro ⟨a,b,e⟩; exact ⟨a,by omega,e⟩
theorem nx1_some {c:Town} {d x:Int} (h:nx1 c d = some x):0 ≤ d ∧ d ≤ x ∧ x ≤ 100000 ∧ openD c x = true:=by
 unfold nx1 at h
 split at h
 ·rename_i hd
  have hm:x ∈ opens c d (nlen d):=List.mem_of_mem_head? h
  obtain ⟨a,b,e⟩:=(opens_mem c d _ x).1 hm
  have:(nlen d:Int) = min (d + 400) 100000 + 1 - d:=by unfold nlen; obtain ⟨_,_⟩:=hd; omega
  exact ⟨hd.1,a,by omega,e⟩
 ·simp at h
theorem got_some (x:Int):got (some x) = x:=rfl
theorem gotE_some (x:Int):gotE (some x) = 0:=rfl
end Cal
theorem next_calls (cv:Array Value) (c:Town) (d:Int) (w:World) (hcv:CityV w (.agg cv) c) :
  Calls Try.prog 69 #[.agg cv,.int .i64 d] w (NextPost (Cal.got (Cal.nx1 c d)) (Cal.gotE (Cal.nx1 c d)) w):=by
 by_cases h:Cal.okDay d
 ·have:=next_ok cv c d w hcv h.1 h.2
  unfold Cal.nx1; rw [if_pos h]; exact this
 ·unfold Cal.nx1; rw [if_neg h]
  have h1:d < 0 ∨ 100000 < d:=by unfold Cal.okDay at h; omega
  have h1:=Lib.hid h1
  clear h
  obtain ⟨nm,o,cu,r,f,s,e6,i1,i2,i3⟩:=hcv
  obtain ⟨ra,rn,rc,rfl⟩:=i1.slice
  obtain ⟨fa,fn,fc,rfl⟩:=i2.slice
  obtain ⟨sa,sn,sc,rfl⟩:=i3.slice
  clear i1 i2 i3
  simp only [Value.agg.injEq] at e6
  subst e6
  go_enter Try.func69,Try.ntmps69
  go_wp2_with (go_at_call 77; refine (valid_no _ _ h1.out).mono ?_; rintro e w' ⟨rfl,rfl⟩)
  refine bodyPost_ret (v:=.tuple #[.int .i64 0,.int .i64 3]) (by simp [results,Try.f69,go_sem]) rfl ⟨rfl,?_⟩
  exact (((Below.refl _ _).alloc (Nat.le_refl _) _).alloc (by simp) _).alloc (by simp; omega) _
end Go.Proofs.Ytibhbfhelfjloaa
set_option linter.unusedVariables false
namespace Go.Proofs.Ytibhbfhelfjloaa
open Go.RowKit Go.Shelf
attribute [local go_sem] Oper.semAt_some
namespace Cal
end Cal
end Go.Proofs.Ytibhbfhelfjloaa
