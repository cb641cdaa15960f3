/- graph.next: rows of numbers in memory of the call's own. -/
import Derived.Test.YtgjcnbgfaimepaaNextD
import Derived.Laws.AppendOwn
import Derived.Lib.OwnBridge
import Derived.Sort.OwnSortedInts
import Derived.Below
import Derived.Deep.OwnRows
namespace Go.Proofs.Ytgjcnbgfaimepaa
namespace Vm
open Go.RowKit Go.Sort
def upN {α:Type} (f:Nat->α) (i:Nat) (x:α):Nat->α:=fun j=>if j = i then x else f j
theorem KC {α:Type} (f:Nat->α) (i:Nat) (x:α):upN f i x i = x:=Á rfl
theorem DT {α:Type} (f:Nat->α) {i j:Nat} (x:α) (h:j ≠ i):upN f i x j = f j:=Ã h
structure NX (n0:Nat) (w:World) (g:Nat) (eT eI:TypeId) (N:Nat) (V:Nat->Value) (rows:Nat->List Int):Prop where
 g0:n0 <= g
 blk:∃ cur,w.heap[g]? = some (.cells cur eT (0,0)) ∧ cur.size = N ∧ ∀ j,j < N->cur[j]? = some (V j)
 own:∀ j,j < N->w.ownsRow n0 eI 1 (V j) (rows j).length ((rows j).map (Value.int .i64))
 top:∀ j,j < N->(V j).ownBlock ≠ some g
 apart:∀ i j,i < N->j < N->i ≠ j->∀ k,(V i).ownBlock = some k->(V j).ownBlock ≠ some k
section
variable {n0:Nat} {w w' : World} {g:Nat} {eT eI:TypeId} {N:Nat} {V:Nat->Value} {rows:Nat->List Int}
theorem NX.lt (h:NX n0 w g eT eI N V rows):g < w.heap.size:=by
 obtain ⟨cur,h1,_⟩:=h.blk
 exact (Ï.1 h1).1
theorem NX.cell (h:NX n0 w g eT eI N V rows) {j:Nat} (hj:j < N):w.cell? ⟨g,j,none⟩ = some (V j):=by
 obtain ⟨cur,h1,_,h3⟩:=h.blk
 rw [cell_of_row w g j cur eT (0,0) h1]
 exact h3 j hj
theorem NX.frozen (h:NX n0 w g eT eI N V rows) (j:Nat):w.frozen? ⟨g,j,none⟩ = false:=by
 obtain ⟨cur,h1,_⟩:=h.blk
 simp [World.frozen?,h1]
theorem NX.vlt (h:NX n0 w g eT eI N V rows) {j:Nat} (hj:j < N) {k:Nat} (hk:(V j).ownBlock = some k):n0 <= k ∧ k < w.heap.size:=(h.own j hj).lt k hk
theorem NX.grown (h:NX n0 w g eT eI N V rows) {row:Option Nat} (hg:w.grownBy w' row) (h1:row ≠ some g) (h2:∀ j,j < N->(V j).ownBlock = none ∨ (V j).ownBlock ≠ row):NX n0 w' g eT eI N V rows:=by
 obtain ⟨cur,q1,q2,q3⟩:=h.blk
 exact ⟨h.g0,⟨cur,by rw [hg.block g h.lt (fun e=>h1 e.symm)]; exact q1,q2,q3⟩,fun j hj=>(h.own j hj).kept hg (h2 j hj),h.top,h.apart⟩
theorem NX.alloc (h:NX n0 w g eT eI N V rows) (o:Obj):NX n0 (w.alloc o) g eT eI N V rows :=
 h.grown (œ w o none) (by simp) fun j hj=>by cases (V j).ownBlock <;> simp
theorem aB2 (w:World) (row:Option Nat):w.grownBy w.drew row:=⟨rfl,rfl,rfl,É _,fun _ _ _=>rfl⟩
theorem NX.drew (h:NX n0 w g eT eI N V rows):NX n0 w.drew g eT eI N V rows :=
 h.grown (aB2 w none) (by simp) fun j hj=>by cases (V j).ownBlock <;> simp
theorem aBT {b i:Nat} {cur:Array Value} {e:TypeId} {fr:Nat × Nat} (v:Value) (hb:w.heap[b]? = some (.cells cur e fr)) :
  (w.setCell ⟨b,i,none⟩ v).heap[b]? = some (.cells (cur.setIfInBounds i v) e fr):=by
 simp [World.setCell,ĸ,hb]
theorem W4 {b k i:Nat} (v:Value) (hk:k ≠ b):(w.setCell ⟨b,i,none⟩ v).heap[k]? = w.heap[k]?:=by
 simp [World.setCell,ĸ,ĺ hk]
theorem W3 (w:World) (b i:Nat) (v:Value):w.grownBy (w.setCell ⟨b,i,none⟩ v) (some b) :=
 ⟨rfl,rfl,rfl,by simp [World.setCell],fun k hk hne=>W4 v fun e=>hne (by rw [e])⟩
theorem NX.put (h:NX n0 w g eT eI N V rows) {i:Nat} (hi:i < N) {v' : Value} {ys:List Int} (hg:w.grownBy w' (V i).ownBlock) (hown:w'.ownsRow n0 eI 1 v' ys.length (ys.map (Value.int .i64)))
  (hw:∀ k,v'.ownBlock = some k->w.heap.size <= k ∨ (V i).ownBlock = some k):NX n0 (w'.setCell ⟨g,i,none⟩ v') g eT eI N (upN V i v') (upN rows i ys):=by
 obtain ⟨cur,q1,q2,q3⟩:=h.blk
 have hgl:=h.lt
 have hg' : w'.heap[g]? = some (.cells cur eT (0,0)):=by rw [hg.block g hgl (fun e=>h.top i hi e.symm)]; exact q1
 have hv' : v'.ownBlock ≠ some g:=by
  intro e
  rcases hw g e with q | q
  ·omega
  ·exact h.top i hi q
 have hoth:∀ j,j < N->j ≠ i->(V j).ownBlock = none ∨ (V j).ownBlock ≠ (V i).ownBlock:=by
  intro j hj hne
  cases e:(V j).ownBlock with
  | none=>exact .inl rfl
  | some k=>exact .inr fun e2=>h.apart j i hj hi hne k e e2.symm
 have hset:=W3 w' g i v'
 refine ⟨h.g0,⟨_,aBT v' hg',by simp [q2],fun j hj=>?_⟩,fun j hj=>?_,fun j hj=>?_,fun a b ha hb hab k=>?_⟩
 ·by_cases e:j = i
  ·subst e
   rw [KC,Array.getElem?_setIfInBounds_self_of_lt (by omega)]
  ·rw [DT _ _ e,ė (fun q=>e q.symm)]
   exact q3 j hj
 ·by_cases e:j = i
  ·subst e
   rw [KC,KC]
   exact hown.kept hset (by cases e1:v'.ownBlock with
    | none=>exact .inl rfl
    | some k=>exact .inr fun e2=>hv' (e1.trans e2))
  ·rw [DT _ _ e,DT _ _ e]
   refine ((h.own j hj).kept hg (hoth j hj e)).kept hset ?_
   cases e1:(V j).ownBlock with
   | none=>exact .inl rfl
   | some k=>exact .inr fun e2=>h.top j hj (e1.trans e2)
 ·by_cases e:j = i
  ·subst e; rw [KC]; exact hv'
  ·rw [DT _ _ e]; exact h.top j hj
 ·have key:∀ j,j < N->j ≠ i->v'.ownBlock = some k->(V j).ownBlock ≠ some k:=by
   intro j hj hne e e2
   rcases hw k e with q | q
   ·have:=(h.vlt hj e2).2; omega
   ·exact h.apart i j hi hj (fun q=>hne q.symm) k q e2
  by_cases e1:a = i
  ·subst e1
   rw [KC,DT _ _ (fun q=>hab q.symm)]
   exact key b hb (fun q=>hab q.symm)
  ·rw [DT _ _ e1]
   by_cases e2:b = i
   ·subst e2
    rw [KC]
    exact fun q1 q2=>key a ha e1 q2 q1
   ·rw [DT _ _ e2]
    exact h.apart a b ha hb hab k
theorem NX.congr (h:NX n0 w g eT eI N V rows) {V' : Nat->Value} {rows' : Nat->List Int} (h1:∀ j,j < N->V j = V' j) (h2:∀ j,j < N->rows j = rows' j):NX n0 w g eT eI N V' rows':=by
 obtain ⟨cur,q1,q2,q3⟩:=h.blk
 exact ⟨h.g0,⟨cur,q1,q2,fun j hj=>by rw [← h1 j hj]; exact q3 j hj⟩,fun j hj=>by rw [← h1 j hj,← h2 j hj]; exact h.own j hj,fun j hj=>by rw [← h1 j hj]; exact h.top j hj,
  fun i j hi hj=>by rw [← h1 i hi,← h1 j hj]; exact h.apart i j hi hj⟩
end
end Vm
end Go.Proofs.Ytgjcnbgfaimepaa
