/- slices.Sort and slices.Compact of a slice of ints of one's own: the contracts. -/
import Derived.Test.YtgjcnbgfaimepaaVmI
import Derived.Test.YtgjcnbgfaimepaaLays
import Derived.Sort.OwnSortedInts
import Derived.KernelRfl
namespace Go.Proofs.Ytgjcnbgfaimepaa
namespace Vm
open Go.RowKit Go.Sort Go.ChangeShapes Go.WideShapes
section
variable {w:World} {g o n:Nat} {os:Array Obj} {cur:Array Value} {e:TypeId}
theorem aDL (d:Array Int) (hb:w.heap[g]? = some (.cells cur e (0,0))):(grow (putRow (Value.int .i64) (Sort.ahead w n) g o d) os).heap[g]? = some (.cells (putCells (Value.int .i64) o d cur) e (0,0)):=by
 have hg:g < w.heap.size:=(Ï.1 hb).1
 rw [heap_grow_old _ _ (by simpa using hg)]
 simp [putRow,mapBlock,Sort.ahead,ĸ,hb,onCells]
theorem aBe (d:Array Int):w.grownBy (grow (putRow (Value.int .i64) (Sort.ahead w n) g o d) os) (some g):=by
 refine ⟨rfl,rfl,rfl,by simp,fun k hk hne=>?_⟩
 rw [heap_grow_old _ _ (by simpa using hk)]
 have:g ≠ k:=fun e=>hne (by rw [e])
 simp [putRow,mapBlock,Sort.ahead,ĸ,this]
theorem aCU (cur:Array Value) (ts:List Int) (m:Nat) (hm:m <= ts.length) (h:o + ts.length <= cur.size):((putCells (Value.int .i64) o ts.toArray cur).toList.drop o).take m = (ts.take m).map (Value.int .i64):=by
 apply č
 intro j
 rw [Ö,â,Ç,Ö]
 by_cases hj:j < m
 ·rw [Á hj,Á hj,Ĺ]
  have h1:o + j < cur.size:=by omega
  have h2:j < ts.length:=by omega
  simp [putCells,h1,h2]
 ·rw [Ã hj,Ã hj]; rfl
theorem own_holds {v:Value} {zs:List Int} {cap:Nat} (hb:w.heap[g]? = some (.cells cur e (0,0))) (ht:(cur.toList.drop o).take zs.length = zs.map (Value.int .i64)):Holds (Value.int .i64) w g o zs.toArray:=by
 intro j hj
 have hj' : j < zs.length:=by simpa using hj
 refine ⟨?_,by simp [World.frozen?,hb]⟩
 have h1:((cur.toList.drop o).take zs.length)[j]? = (zs.map (Value.int .i64))[j]?:=by rw [ht]
 rw [List.getElem?_take_of_lt hj',â] at h1
 simp only [World.cell?,hb]
 simp only [Option.isSome_none,ö,Ĵ]
 rw [← Ĺ,h1]
 simp [hj']
end
theorem aHc (w:World):grow w #[] = w:=by simp [grow]
theorem aJt:aKa Try.prog 57:=by
 intro w e v zs hlt hown
 rcases hown.2 with ⟨rfl,h0⟩ | ⟨g,o,cap,cur,rfl,hg,h1,h2,h3,h4⟩
 ·have:zs = []:=Ñ h0
  subst this
  refine (Try.slices_Sort_int_none none 0 w).mono ?_
  rintro en w' ⟨rfl,rfl⟩
  refine ⟨rfl,⟨rfl,rfl,rfl,É _,fun _ _ _=>rfl⟩,?_⟩
  have:EM [] = []:=Ñ (KW [])
  rw [this]
  exact hown
 ·simp only [Į] at h3 h4 ⊢
  refine (Try.slices_Sort_int g o cap zs w (own_holds (v:=.bool true) (cap:=0) hg h4) (Ï.1 hg).1 hlt).mono ?_
  rintro en w' ⟨rfl,n,os,rfl⟩
  rw [← XM]
  have hl:(EM zs).length = zs.length:=KW zs
  refine ⟨rfl,aBe _,by simp [hl],.inr ⟨g,o,cap,_,by rw [Į],aDL _ hg,h1,h2,?_,?_⟩⟩
  ·simp only [putCells,Array.size_mapIdx]; omega
  ·simp only [Į]
   have:=aCU cur (EM zs) zs.length (by omega) (by rw [hl]; omega) (o:=o)
   exact this.trans (by rw [Ğ (by omega)])
theorem aMk:aLu Try.prog 58:=by
 intro w e v zs hown
 rcases hown.2 with ⟨rfl,h0⟩ | ⟨g,o,cap,cur,rfl,hg,h1,h2,h3,h4⟩
 ·have:zs = []:=Ñ h0
  subst this
  refine (Try.slices_Compact_int_empty none 0 w).mono ?_
  rintro en w' ⟨rfl,rfl⟩
  exact ⟨_,rfl,⟨rfl,rfl,rfl,É _,fun _ _ _=>rfl⟩,hown,fun g h=>by cases h⟩
 ·simp only [Į] at h3 h4 ⊢
  refine (Try.slices_Compact_int g o cap zs w (own_holds (v:=.bool true) (cap:=0) hg h4) (ñ h1 h2) h1).mono ?_
  rintro en w' ⟨rfl,q,rfl⟩
  have hle:(GA zs).length <= zs.length:=Lib.compact_length_le _
  have hl:(Lib.compact zs ++ List.replicate (zs.length - (Lib.compact zs).length) 0).length = zs.length:=by
   simp
   exact Nat.add_sub_cancel' hle
  rw [← aHc (putRow _ _ _ _ _)]
  refine ⟨_,rfl,aBe _,⟨by simp,.inr ⟨g,o,cap,_,by rw [Į]; rfl,aDL _ hg,ñ hle h1,h2,?_,?_⟩⟩,fun k hk=>hk⟩
  ·simp only [putCells,Array.size_mapIdx]; omega
  ·simp only [Į]
   have:=aCU cur (Lib.compact zs ++ List.replicate (zs.length - (Lib.compact zs).length) 0) (GA zs).length (by omega) (by rw [hl]; omega) (o:=o)
   rw [this]
   congr 1
   exact List.take_left
theorem aMu:aKa Try.prog 57 ∧ Try.prog.funcs[57]? = some Try.f57 ∧ Try.f57.name ≠ "runtime.NumGoroutine" ∧ Try.f57.body.isSome = true:=⟨aJt,Try.func57,by decide,rfl⟩
theorem aKz:aLu Try.prog 58 ∧ Try.prog.funcs[58]? = some Try.f58 ∧ Try.f58.name ≠ "runtime.NumGoroutine" ∧ Try.f58.body.isSome = true:=⟨aMk,Try.func58,by decide,rfl⟩
end Vm
end Go.Proofs.Ytgjcnbgfaimepaa
