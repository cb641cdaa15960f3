/- slices.SortFunc of events by their numbers: the contract. -/
import Derived.Test.YtiimibimkpimbaaSortD
import Derived.Test.YtiimibimkpimbaaVmG
import Derived.Test.YtiimibimkpimbaaLays
import Derived.KernelRfl
set_option linter.unusedVariables false
set_option linter.unusedSimpArgs false
namespace Go.Proofs.Ytiimibimkpimbaa
namespace Vm
open Go.RowKit Go.Sort Go.Shelf Go.Lib
set_option maxHeartbeats 1000000 in
theorem aKt (a b c n f t u d s a' b' c' n' f' t' u' d' s' : Int) (hn:0 ≤ n ∧ n < 1000) (hn' : 0 ≤ n' ∧ n' < 1000) (W:World) :
  Calls Try.prog 32 #[.agg #[.int .i64 a,.int .i64 b,.int .i64 c,.int .i64 n,.int .i64 f,.int .i64 t,.int .i64 u,.int .i64 d,.int .i64 s],.agg #[.int .i64 a',.int .i64 b',.int .i64 c',.int .i64 n',.int .i64 f',.int .i64 t',.int .i64 u',.int .i64 d',.int .i64 s']] W
   fun e w'=>e = .returned (.int .i64 (n - n')) ∧ ∃ q os',w' = grow (W.drewN q) os':=by
 have hw:IntKind.wrap .i64 (n - n') = n - n':=jT (by omega) (by omega)
 go_enter Try.func32,Try.ntmps32
 go_wp2
 go_ret
 exact ⟨rfl,0,_,by rw [alloc_eq_grow,alloc_eq_grow,grow_grow]; rfl⟩
def aKp:D→Value
 | .int k n=>.int k n
 | _=>undef
theorem Y5 {h:Hp} {v:Value} {n:Int} (r:bL h v (.int .i64 n)):v = .int .i64 n:=by cases r; rfl
section
variable {rows:List (List D)}
def rG (x:{r // r ∈ rows}):List Value:=x.1.map aKp
def cfE (x y:{r // r ∈ rows}):Int:=EI x.1 - EI y.1
theorem ltE (x y:{r // r ∈ rows}):ltOf cfE x y = decide (EI x.1 < EI y.1):=by
 unfold ltOf cfE
 by_cases h:EI x.1 < EI y.1
 ·rw [decide_eq_true h,decide_eq_true (by omega)]
 ·rw [decide_eq_false h,decide_eq_false (by omega)]
theorem aLC:SWO (ltOf (cfE (rows:=rows))) where
 irrefl x:=by rw [ltE]; simp
 trans x y z h1 h2:=by rw [ltE] at *; simp at *; omega
 ntrans x y z h1 h2:=by rw [ltE] at *; simp at *; omega
theorem aCQ (h:∀ r ∈ rows,I2 r = true) (x:{r // r ∈ rows}):(rG x).length = 9:=by
 obtain ⟨_,_,_,_,_,_,_,_,_,e,_⟩:=yR (h x.1 x.2)
 unfold rG
 rw [e]; rfl
theorem aDu (h:∀ r ∈ rows,I2 r = true) (x:{r // r ∈ rows}):∀ v ∈ rG x,v.oneCell' = true:=by
 obtain ⟨_,_,_,_,_,_,_,_,_,e,_⟩:=yR (h x.1 x.2)
 unfold rG
 rw [e]
 intro v hv
 simp only [List.map_cons,List.map_nil,aKp,List.mem_cons,List.not_mem_nil,or_false] at hv
 rcases hv with rfl | rfl | rfl | rfl | rfl | rfl | rfl | rfl | rfl <;> rfl
theorem aDQ (h:∀ r ∈ rows,I2 r = true) [Inhabited {r // r ∈ rows}] (blk off size:Nat) (w:World):CmpLays Try.prog 32 #[] (rG (rows:=rows)) 9 cfE blk off size w:=by
 intro m os dk _ x y
 obtain ⟨a,b,c,n,f,t,u,d,s,e,hn⟩:=yR (h x.1 x.2)
 obtain ⟨a',b',c',n',f',t',u',d',s',e',hn'⟩:=yR (h y.1 y.2)
 have:=aKt a b c n f t u d s a' b' c' n' f' t' u' d' s' hn hn' (sortWorldK rG 9 w blk off m dk os)
 unfold rG cfE at *
 rw [e,e'] at *
 exact this
theorem YK [Inhabited {r // r ∈ rows}] (h:∀ r ∈ rows,I2 r = true) (d:Array {r // r ∈ rows}) {i j:Nat} (hi:i < d.size) (hj:j < 9):(Go.Sort.flatK rG 9 d)[i * 9 + j]? = some ((rG d[i]!)[j]!):=by
 have hlt:i * 9 + j < d.size * 9:=by omega
 have h1:=get_flatK (rG (rows:=rows)) 9 d (i * 9 + j) hlt
 rw [show (i * 9 + j) / 9 = i by omega,show (i * 9 + j) % 9 = j by omega] at h1
 rw [← h1,getElem!_pos _ _ (by rw [size_flatK]; exact hlt)]
 exact Array.getElem?_eq_getElem _
theorem TB:rows.attach.toArray.size = rows.length:=by simp
theorem aBf [Inhabited {r // r ∈ rows}] {i:Nat} (hi:i < rows.length):(rows.attach.toArray[i]!).1 = rows[i]:=by
 rw [getElem!_pos _ _ (by simpa using hi)]
 simp
end
theorem aKU {vs:Array Value} (h:vs.size = 2):∃ v0 v1,vs = #[v0,v1]:=by
 obtain ⟨l⟩:=vs
 match l,h with
 | [a,b],_=>exact ⟨a,b,rfl⟩
theorem RM {rows:List (List D)} (h:RE rows = true):(∀ r ∈ rows,I2 r = true) ∧ IK rows = true ∧ rows.length ≤ 100000:=by
 unfold RE at h
 rw [Bool.and_eq_true,Bool.and_eq_true,List.all_eq_true,decide_eq_true_eq] at h
 exact ⟨h.1.1,h.1.2,h.2⟩
theorem U3 {α:Type} [Inhabited α] (enc:α→List Value) (k:Nat) (w:World) (g off nn:Nat) (d:Array α) (os:Array Obj) (cur:Array Value) (e:TypeId) (hg:w.heap[g]? = some (.cells cur e (0,0))) (q:Nat) (hq:q < w.heap.size) :
  (sortWorldK enc k w g off nn d os).heap[q]? = if q = g then some (.cells (putCells id off (Go.Sort.flatK enc k d) cur) e (0,0)) else w.heap[q]?:=by
 show ((w.heap.modify g (onCells (putCells id off (Go.Sort.flatK enc k d)))) ++ os)[q]? = _
 rw [Array.getElem?_append_left (by simpa using hq),Array.getElem?_modify]
 by_cases c:g = q
 ·subst c
  rw [if_pos rfl,if_pos rfl,hg]
  rfl
 ·rw [if_neg c,if_neg fun z=>c z.symm]
theorem WO:∀ (ds:List D) (x:D) (t:Nat),SW 32 ds = some x→hZ 0 ds = some t→E0 Try.prog 31 ds t x:=by
 intro ds x t ho hl
 unfold SW at ho
 split at ho
 case h_2=>cases ho
 rename_i e0 size0 rows gf
 split at ho
 case isFalse=>cases ho
 rename_i hc
 obtain ⟨⟨rfl,rfl⟩,hok⟩:=hc
 cases ho
 cases hl
 obtain ⟨hev,hdf,hlen5⟩:=RM hok
 refine ⟨⟨_,Try.func31,by decide,rfl⟩,?_⟩
 intro e size rows2 rows' y hdt hx w h vs hle hvs hrd hlent
 cases hdt
 cases hx
 obtain ⟨v0,v1,rfl⟩:=aKU hvs
 have r1:bL h v1 (.fn 32 []):=hrd 1 _ (by decide) rfl
 obtain rfl:v1 = .func (.func 32) #[] #[]:=by
  cases r1 with
  | fn f arr cs hl hr =>
   have:arr = #[]:=by simpa using hl
   rw [this]
 replace hlent:H5 w h v0 e0 9 rows:=hlent
 show Calls Try.prog _ #[v0,_] w fun en w'=>∃ v h',en = .returned v ∧ bL h' v (.tup []) ∧ H5 w' h' v0 e0 9 (isN rows) ∧ h.le h' ∧ h'.le (hw w') ∧ wX (fD.lent w 0 v0) w w'
 have htup:bL h (.tuple #[]) (.tup []):=.tup #[] [] rfl (fun j x q=>by simp at q) (fun j x q=>by simp at q)
 have hnone:∀ (p:Option Addr) (c:Nat),v0 = .slice p 0 c→rows = []→Calls Try.prog 31 #[v0,.func (.func 32) #[] #[]] w fun en w'=>∃ v h',en = .returned v ∧ bL h' v (.tup []) ∧ H5 w' h' v0 e0 9 (isN rows) ∧ h.le h' ∧ h'.le (hw w') ∧ wX (fD.lent w 0 v0) w w':=by
  intro p c hv hr
  have hcon:=AnyF.slices_SortFunc_none Try.sortFn p c (.func (.func 32) #[] #[]) w
  change Calls Try.prog 31 _ _ _ at hcon
  rw [hv]
  refine hcon.mono ?_
  rintro en w' ⟨rfl,rfl⟩
  refine ⟨_,h,rfl,htup,?_,Hp.le.refl _,hle,wX.refl _ _⟩
  rw [← hv]
  have:isN rows = rows:=by rw [hr]; rfl
  rw [this]
  exact hlent
 obtain ⟨hsz9,hml,⟨xs,hown,hrows⟩,hnum⟩:=hlent
 rcases hown.2 with ⟨hv,hn0⟩ | ⟨g,o,cap,cur,hv,hg,h1,h2,h3,h4⟩
 ·exact hnone none 0 hv (List.eq_nil_of_length_eq_zero hn0)
 by_cases hz:rows.length = 0
 ·exact hnone _ cap (by rw [hv,hz]) (List.eq_nil_of_length_eq_zero hz)
 have hglt:g < w.heap.size:=(Array.getElem?_eq_some_iff.1 hg).1
 have hI:Inhabited {r // r ∈ rows}:=⟨⟨rows[0]'(by omega),List.getElem_mem _⟩⟩
 have hcell:=hown.cells hv
 have hds:rows.attach.toArray.size = rows.length:=TB
 have hH:HoldsK (rG (rows:=rows)) 9 w g (o * 9) rows.attach.toArray:=by
  intro j hj
  rw [size_flatK,hds] at hj
  have hi:j / 9 < rows.length:=by omega
  have hm:j % 9 < 9:=by omega
  have ej:j / 9 * 9 + j % 9 = j:=by omega
  have hf:=YK hev rows.attach.toArray (i:=j / 9) (j:=j % 9) (by rw [hds]; exact hi) hm
  rw [ej] at hf
  have hval:(Go.Sort.flatK (rG (rows:=rows)) 9 rows.attach.toArray)[j]! = (rG (rows.attach.toArray[j / 9]!))[j % 9]!:=by
   rw [getElem!_pos _ _ (by rw [size_flatK,hds]; exact hj)]
   rw [Array.getElem?_eq_getElem (by rw [size_flatK,hds]; exact hj)] at hf
   exact Option.some.inj hf
  obtain ⟨_,_,_,_,_,_,_,_,_,el,_⟩:=yR (hev rows[j / 9] (List.getElem_mem _))
  have hrl:(rows[j / 9]).length = 9:=by rw [el]; rfl
  obtain ⟨_,hcl⟩:=hrows (j / 9) rows[j / 9] (List.getElem?_eq_getElem hi)
  obtain ⟨_,u,hu1,hu2⟩:=hcl (j % 9) ((rows[j / 9])[j % 9]'(by omega)) (List.getElem?_eq_getElem _)
  rw [ej] at hu1
  have hc:=hcell j u hu1
  have hatt:(rows.attach.toArray[j / 9]!).1 = rows[j / 9]:=aBf hi
  have hu3:u = (rG (rows.attach.toArray[j / 9]!))[j % 9]!:=by
   unfold rG
   rw [hatt,getElem!_pos _ _ (by rw [List.length_map]; omega),List.getElem_map]
   have:∃ n,(rows[j / 9])[j % 9]'(by omega) = .int .i64 n:=by
    have hin:(rows[j / 9])[j % 9]'(by omega) ∈ rows[j / 9]:=List.getElem_mem _
    revert hin
    generalize (rows[j / 9])[j % 9]'(by omega) = z
    intro hin
    rw [el] at hin
    simp only [List.mem_cons,List.not_mem_nil,or_false] at hin
    rcases hin with rfl | rfl | rfl | rfl | rfl | rfl | rfl | rfl | rfl <;> exact ⟨_,rfl⟩
   obtain ⟨n,hn⟩:=this
   rw [hn] at hu2 ⊢
   exact Y5 hu2
  refine ⟨?_,?_⟩
  ·show w.cell? ⟨g,o * 9 + j,none⟩ = some ((Go.Sort.flatK rG 9 rows.attach.toArray)[j]!)
   rw [hval,← hu3]
   exact hc
  ·simp [World.frozen?,hg]
 have hcon:=AnyQ.slices_SortFunc_total Try.sortFn 9 Try.isAgg32 Try.sizeOf32 (rG (rows:=rows)) (aCQ hev) (aDu hev) cfE aLC 32 #[] g (o * 9) cap rows.attach.toArray w (enters_of Try.func32 (by kernel_rfl) rfl) (aDQ hev g (o * 9) _ w) hH hglt (by rw [hds]; omega) (fun x y q1 q2=>by
  rw [ltE] at q1 q2
  have q1:=of_decide_eq_false q1
  have q2:=of_decide_eq_false q2
  exact Subtype.ext (GJ hdf x.1 x.2 y.1 y.2 (by omega)))
 change Calls Try.prog 31 _ _ _ at hcon
 rw [hds] at hcon
 rw [hv]
 refine hcon.mono ?_
 rintro en w' ⟨rfl,nn,os,rfl⟩
 generalize hD:(rows.attach.toArray.toList.mergeSort fun x y=>!(ltOf cfE) y x).toArray = D'
 have hperm:D'.toList.Perm rows.attach:=by
  rw [← hD]
  simpa using List.mergeSort_perm rows.attach fun x y=>!(ltOf cfE) y x
 have hsort:D'.toList.Pairwise (fun x y=>EI x.1 ≤ EI y.1):=by
  rw [← hD]
  have:=List.pairwise_mergeSort (le:=fun x y=>!(ltOf (cfE (rows:=rows))) y x) (fun a b c q1 q2=>by rw [ltE] at *; simp at *; omega) (fun a b=>by rw [ltE,ltE]; simp; omega) rows.attach.toArray.toList
  exact this.imp fun {a b} q=>by rw [ltE] at q; simpa using q
 have hmap:D'.toList.map (·.1) = isN rows:=WH hdf (by have:=hperm.map Subtype.val; rwa [List.attach_map_subtype_val] at this) (List.pairwise_map.2 hsort)
 have hDs:D'.size = rows.length:=by
  have:=hperm.length_eq
  simpa using this
 have hil:(isN rows).length = rows.length:=(F7 rows).length_eq
 have hheap:=U3 (rG (rows:=rows)) 9 w g (o * 9) nn D' os cur e0 hg
 have hfs:(Go.Sort.flatK (rG (rows:=rows)) 9 D').size = rows.length * 9:=by rw [size_flatK,hDs]
 refine ⟨_,h,rfl,htup,?_,Hp.le.refl _,?_,?_⟩
 ·refine ⟨by decide,by rw [hil]; exact hml,⟨(Go.Sort.flatK rG 9 D').toList,⟨by rw [hil]; simpa using hfs,.inr ⟨g,o,cap,putCells id (o * 9) (Go.Sort.flatK rG 9 D') cur,by rw [hil],?_,by rw [hil]; exact h1,h2,?_,?_⟩⟩,?_⟩,?_⟩
  ·rw [hheap g hglt,if_pos rfl]
  ·simpa [putCells] using h3
  ·rw [hil]
   refine List.ext_getElem? fun q=>?_
   rw [List.getElem?_take]
   by_cases hq:q < rows.length * 9
   ·rw [if_pos hq,List.getElem?_drop]
    have hb:o * 9 + q < cur.size:=by omega
    have e1:(putCells id (o * 9) (Go.Sort.flatK (rG (rows:=rows)) 9 D') cur)[o * 9 + q]? = some ((Go.Sort.flatK (rG (rows:=rows)) 9 D')[q]!):=by
     unfold putCells
     rw [Array.getElem?_mapIdx,Array.getElem?_eq_getElem hb,Option.map_some,if_pos ⟨by omega,by rw [hfs]; omega⟩,Nat.add_sub_cancel_left]
     rfl
    rw [show (putCells id (o * 9) (Go.Sort.flatK (rG (rows:=rows)) 9 D') cur).toList[o * 9 + q]? = (putCells id (o * 9) (Go.Sort.flatK (rG (rows:=rows)) 9 D') cur)[o * 9 + q]? from by simp,e1]
    have hq2:q < (Go.Sort.flatK (rG (rows:=rows)) 9 D').size:=by rw [hfs]; exact hq
    rw [getElem!_pos (Go.Sort.flatK (rG (rows:=rows)) 9 D') q hq2]
    simp [hq2]
   ·rw [if_neg hq]
    symm
    rw [List.getElem?_eq_none_iff]
    have:(Go.Sort.flatK (rG (rows:=rows)) 9 D').toList.length = rows.length * 9:=by simpa using hfs
    omega
  ·intro i row hi
   rw [← hmap,List.getElem?_map,Option.map_eq_some_iff] at hi
   obtain ⟨z,hz,rfl⟩:=hi
   have hiD:i < D'.size:=by
    have:=(List.getElem?_eq_some_iff.1 hz).1
    simpa using this
   have hzi:D'[i]! = z:=by
    rw [getElem!_pos D' i hiD]
    have:=(List.getElem?_eq_some_iff.1 hz).2
    simpa using this
   obtain ⟨_,_,_,_,_,_,_,_,_,el,_⟩:=yR (hev z.1 z.2)
   have hzl:z.1.length = 9:=by rw [el]; rfl
   refine ⟨hzl,fun j x hx=>?_⟩
   have hj:j < 9:=by have:=(List.getElem?_eq_some_iff.1 hx).1; omega
   have hxi:∃ n,x = .int .i64 n:=by
    have hin:=List.mem_of_getElem? hx
    rw [el] at hin
    simp only [List.mem_cons,List.not_mem_nil,or_false] at hin
    rcases hin with rfl | rfl | rfl | rfl | rfl | rfl | rfl | rfl | rfl <;> exact ⟨_,rfl⟩
   obtain ⟨n,rfl⟩:=hxi
   refine ⟨rfl,.int .i64 n,?_,.int .i64 n⟩
   have hf:=YK hev D' hiD hj
   rw [show (Go.Sort.flatK (rG (rows:=rows)) 9 D').toList[i * 9 + j]? = (Go.Sort.flatK (rG (rows:=rows)) 9 D')[i * 9 + j]? from by simp,hf,hzi]
   congr 1
   unfold rG
   rw [getElem!_pos _ _ (by rw [List.length_map]; omega),List.getElem_map]
   have:=(List.getElem?_eq_some_iff.1 hx).2
   rw [this]
   rfl
  ·intro q hq
   exact hnum q (by rw [hv]; exact hq)
 ·intro b ob hb
  have h5:=hle b ob hb
  have hbl:b < w.heap.size:=(Array.getElem?_eq_some_iff.1 h5).1
  have hbg:b ≠ g:=fun q=>by
   rw [q] at hb
   rw [hnum g (by rw [hv]; rfl)] at hb
   cases hb
  show (sortWorldK _ _ _ _ _ _ _ _).heap[b]? = some ob
  rw [hheap b hbl,if_neg hbg]
  exact h5
 ·refine ⟨rfl,rfl,rfl,?_,fun q hq=>?_⟩
  ·show w.heap.size ≤ ((w.heap.modify g (onCells (putCells id (o * 9) (Go.Sort.flatK rG 9 D')))) ++ os).size
   simp
  ·have hq1:q < w.heap.size:=fD.lt hq
   have hq2:q ≠ g:=fun z=>hq (.inr (by rw [z]; rfl))
   rw [hheap q hq1,if_neg hq2]
end Vm
end Go.Proofs.Ytiimibimkpimbaa
