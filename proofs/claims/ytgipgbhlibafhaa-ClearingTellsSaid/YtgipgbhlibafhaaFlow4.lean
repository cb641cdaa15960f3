/- Steps of a clearing, least labels, and what moves along them (plain mathematics). -/
import Derived.Test.YtgipgbhlibafhaaFlow
import Derived.Test.YtgipgbhlibafhaaFlow3
set_option linter.unusedVariables false
set_option linter.unusedSimpArgs false
namespace Go.Proofs.Ytgipgbhlibafhaa
structure Stp where
 due:Int
 sf:Int
 st:Int
 cost:Int
 most:Int
 back:Bool
deriving Inhabited
def Stp.src (e:Stp):Nat:=e.sf.toNat
def Stp.dst (e:Stp):Nat:=e.st.toNat
structure Lab where
 c:Int
 k:Int
 fine:Bool
deriving Inhabited
def lessL (a b:Lab):Bool:=a.fine && (!b.fine || decide (a.c < b.c) || decide (a.c = b.c) && decide (a.k < b.k))
def onwL (a:Lab) (s:Stp):Lab:=⟨a.c + s.cost,a.k + 1,a.fine⟩
theorem lessL_iff (a b:Lab):lessL a b = true ↔ a.fine = true ∧ (b.fine = false ∨ a.c < b.c ∨ a.c = b.c ∧ a.k < b.k):=by
 simp only [lessL,Bool.and_eq_true,Bool.or_eq_true,Bool.not_eq_true',decide_eq_true_eq,or_assoc]
theorem lessL_no (a b:Lab):lessL a b = false ↔ a.fine = false ∨ b.fine = true ∧ (b.c < a.c ∨ b.c = a.c ∧ b.k ≤ a.k):=by
 rw [← Bool.not_eq_true,lessL_iff]
 cases ha:a.fine <;> cases hb:b.fine <;> simp <;> omega
theorem labO:OrdS lessL onwL where
 irr a:=by rw [lessL_no]; cases a.fine <;> simp
 asym a b h:=by
  rw [lessL_iff] at h
  rw [lessL_no]
  rcases h with ⟨h1,h2 | h2⟩
  ·exact .inl h2
  ·exact .inr ⟨h1,by omega⟩
 neg a b c h1 h2:=by
  rw [lessL_no] at *
  cases ha:a.fine <;> cases hb:b.fine <;> cases hc:c.fine <;> simp [ha,hb,hc] at h1 h2 ⊢ <;> omega
 mono a b s h:=by
  rw [lessL_no] at *
  simp only [onwL]
  rcases h with h | ⟨h1,h2⟩
  ·exact .inl h
  ·exact .inr ⟨h1,by omega⟩
def addL (a:Lab) (c:Int) (k:Nat):Lab:=⟨a.c + c,a.k + k,a.fine⟩
theorem labA (cst:Stp→Int) (hc:∀ s,cst s = s.cost):LabS lessL onwL cst addL where
 zero a:=by simp [addL]
 step a c k s:=by
  rw [hc]
  simp only [addL,onwL,Lab.mk.injEq,and_true]
  constructor <;> omega
 le a c k c' k' h:=by
  unfold leS
  rw [lessL_no]
  simp only [addL]
  cases a.fine <;> simp <;> omega
structure TreeS (n:Nat) (l:List Stp) (F R:Nat→Prop) (q:Nat→Int) (μ:Nat→Nat) (last:List Int):Prop where
 tree:∀ v,v < n→F v→(el last v = -1 ∧ R v) ∨ ∃ k,k < l.length ∧ el last v = (k:Int) ∧ (el l k).dst = v ∧ (el l k).src < n ∧ F (el l k).src ∧ μ (el l k).src < μ v ∧ q v = q (el l k).src + (el l k).cost
 closed:∀ k,k < l.length→F (el l k).src→F (el l k).dst ∧ q (el l k).dst ≤ q (el l k).src + (el l k).cost
 root:∀ v,v < n→R v→F v
theorem wk_lab {l:List Stp} {init:List Lab} {k v:Nat} {a:Lab} (w:WkS onwL Stp.src Stp.dst l init k a v):∃ u,u < init.length ∧ a.k = (el init u).k + k ∧ a.fine = (el init u).fine:=by
 induction w with
 | zero v hv=>exact ⟨v,hv,by simp,rfl⟩
 | step i hi _ ih =>
  obtain ⟨u,h1,h2,h3⟩:=ih
  exact ⟨u,h1,by simp [onwL]; omega,h3⟩
theorem cheap_tree {n:Nat} {l:List Stp} {p:Nat→Int} (h:Pot Stp.src Stp.dst Stp.cost l p) (R:Nat→Bool) (hs:∀ i,i < l.length→(el l i).src < n ∧ (el l i).dst < n) {init:List Lab} (hn:init.length = n) (hi:∀ v,v < n→el init v = ⟨0,0,R v⟩) {fuel:Nat} (hf:n + 1 ≤ fuel) :
  ∃ best last,runS lessL onwL Stp.src Stp.dst l fuel init (List.replicate n (-1)) = some (best,last) ∧ best.length = n ∧ last.length = n ∧
   TreeS n l (fun v=>(el best v).fine = true) (fun v=>R v = true) (fun v=>(el best v).c) (fun v=>(el best v).k.toNat) last:=by
 subst hn
 obtain ⟨best,last,h1,h2,h3,h4⟩:=run_pot labO (labA Stp.cost fun _=>rfl) h hs hf
 refine ⟨best,last,h1,h2.len,h2.lenL,?_,?_,?_⟩
 ·intro v hv hF
  rcases h2.last_ v hv with ⟨q1,q2⟩ | ⟨k,q1,q2,q3,q4⟩
  ·refine .inl ⟨q1,?_⟩
   rw [q2,hi v hv] at hF
   exact hF
  ·refine .inr ⟨k,q1,q2,q3,(hs k q1).1,?_⟩
   have q5:=h3 k q1
   rw [q3] at q5
   unfold leS at q4 q5
   rw [lessL_no] at q4 q5
   simp only [onwL] at q4 q5
   obtain ⟨j,hj⟩:=h2.wk _ (hs k q1).1
   obtain ⟨u,r1,r2,r3⟩:=wk_lab hj
   rw [hi u r1] at r2
   dsimp only at r2
   rcases q4 with q4 | ⟨q4,q6⟩
   ·rw [hF] at q4; cases q4
   ·rcases q5 with q5 | ⟨_,q7⟩
    ·rw [q4] at q5; cases q5
    ·exact ⟨q4,by omega,by omega⟩
 ·intro k hk hF
  have q5:=h3 k hk
  unfold leS at q5
  rw [lessL_no] at q5
  simp only [onwL] at q5
  rcases q5 with q5 | ⟨q6,q7⟩
  ·rw [hF] at q5; cases q5
  ·exact ⟨q6,by omega⟩
 ·intro v hv hR
  have q:=h2.le0 v hv
  unfold leS at q
  rw [lessL_no,hi v hv] at q
  dsimp only at q
  rcases q with q | q
  ·rw [hR] at q; cases q
  ·exact q.1
inductive Pth (l:List Stp) (last:List Int):Nat→List Nat→Nat→Prop
 | nil (v:Nat):el last v = -1→Pth l last v [] v
 | cons {v k u:Nat} {ks:List Nat}:k < l.length→el last v = (k:Int)→(el l k).dst = v→Pth l last (el l k).src ks u→Pth l last v (k :: ks) u
section
variable {n:Nat} {l:List Stp} {F R:Nat→Prop} {q:Nat→Int} {μ:Nat→Nat} {last:List Int}
theorem TreeS.path (T:TreeS n l F R q μ last):∀ (b v:Nat),μ v < b→v < n→F v→∃ ks u,Pth l last v ks u ∧ u < n ∧ R u ∧ F u ∧ (∀ k ∈ ks,k < l.length ∧ F (el l k).src ∧ F (el l k).dst ∧ μ (el l k).src < μ (el l k).dst ∧ μ (el l k).dst ≤ μ v ∧ q (el l k).dst = q (el l k).src + (el l k).cost)
 | 0,v,h,_,_=>absurd h (Nat.not_lt_zero _)
 | b + 1,v,h,hv,hF=>by
  rcases T.tree v hv hF with ⟨h1,h2⟩ | ⟨k,h1,h2,h3,h4,h5,h6,h7⟩
  ·exact ⟨[],v,.nil v h1,hv,h2,hF,fun k hk=>by cases hk⟩
  ·obtain ⟨ks,u,q1,q2,q3,q4,q5⟩:=T.path b (el l k).src (by omega) h4 h5
   refine ⟨k :: ks,u,.cons h1 h2 h3 q1,q2,q3,q4,fun j hj=>?_⟩
   rcases List.mem_cons.1 hj with rfl | hj
   ·exact ⟨h1,h5,by rw [h3]; exact hF,by rw [h3]; exact h6,by rw [h3]; exact Nat.le_refl _,by rw [h3]; exact h7⟩
   ·obtain ⟨r1,r2,r3,r4,r5,r6⟩:=q5 j hj
    exact ⟨r1,r2,r3,r4,by omega,r6⟩
end
end Go.Proofs.Ytgipgbhlibafhaa
