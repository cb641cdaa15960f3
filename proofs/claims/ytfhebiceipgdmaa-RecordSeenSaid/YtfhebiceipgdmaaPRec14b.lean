/- What the functions of layer 14 answer: the file of a day, equality, the day of sight. -/
import Derived.Test.YtfhebiceipgdmaaPRec14
set_option linter.unusedVariables false
set_option linter.unusedSimpArgs false
namespace Go.Proofs.Ytfhebiceipgdmaa
open Go.RowKit Vm
def wU (S:List aO) (d:Int):List aO:=S.takeWhile fun x=>decide (x.Day ≤ d)
def DV (A:List bB) (d:Int):List bB:=A.takeWhile fun x=>decide (x.Day ≤ d)
def sN (L:List aZ) (n:Nat):List aZ:=L.filter fun x=>decide (x.At ≤ (n:Int))
def j8 (F:List bG) (n:Nat):List bG:=F.filter fun x=>decide (0 ≤ x.At ∧ x.At < (n:Int))
def mV (f:aB) (d:Int):aB:=aB.mk f.Bill (wU f.Signs d) (sN f.Alters (wU f.Signs d).length) (DV f.Acts d) (j8 f.Facts (wU f.Signs d).length)
theorem RH (a n:Int):hU a n = some (decide (0 ≤ a ∧ a < n)):=by
  unfold hU
  by_cases h:a ≥ 0
  · rw [if_pos (decide_eq_true h)]; simp [show 0 ≤ a from h]
  · rw [if_neg (fun q=>h (of_decide_eq_true q)),decide_eq_false (fun q=>h q.1)]
theorem A7 (f:aB) (d:Int) (hs:f.Signs.length < 1000000) (ha:f.Acts.length < 1000000) (hl:f.Alters.length < 1000000) (hf:f.Facts.length < 1000000):hH f d = some (mV f d):=by
  unfold hH
  have h1:tQ f d 0 [] = some (wU f.Signs d):=by
    have:=CP (step:=fun w:Int × List aO=>jR f d w.1 w.2) (fun i=>((i:Int),f.Signs.take i)) f.Signs.length (fun i=>if decide ((el f.Signs i).Day ≤ d) = true then none else some (f.Signs.take i)) f.Signs (by
      intro i hi
      have:=PR f.Signs i
      simp only [jR,mN hi,if_true,eQ _ _ hi,Option.bind_some,b9 (show i < 9223372036854775807 by omega),decide_eq_true_eq]
      by_cases q:(el f.Signs i).Day ≤ d
      · rw [if_neg (show ¬ (el f.Signs i).Day > d by omega),if_pos (by omega),if_pos q,AD _ _ hi]
      · rw [if_pos (show (el f.Signs i).Day > d by omega),if_neg q]) (by
      simp only [jR,oF,if_false,List.take_length])
    rw [H3 (fun x:aO=>decide (x.Day ≤ d))] at this
    exact this
  have h2:∀ r,tT f d r 0 [] = some (DV f.Acts d):=by
    intro r
    have:=CP (step:=fun w:Int × List bB=>jP f d r w.1 w.2) (fun i=>((i:Int),f.Acts.take i)) f.Acts.length (fun i=>if decide ((el f.Acts i).Day ≤ d) = true then none else some (f.Acts.take i)) f.Acts (by
      intro i hi
      have:=PR f.Acts i
      simp only [jP,mN hi,if_true,eQ _ _ hi,Option.bind_some,b9 (show i < 9223372036854775807 by omega),decide_eq_true_eq]
      by_cases q:(el f.Acts i).Day ≤ d
      · rw [if_neg (show ¬ (el f.Acts i).Day > d by omega),if_pos (by omega),if_pos q,AD _ _ hi]
      · rw [if_pos (show (el f.Acts i).Day > d by omega),if_neg q]) (by
      simp only [jP,oF,if_false,List.take_length])
    rw [H3 (fun x:bB=>decide (x.Day ≤ d))] at this
    exact this
  have h3:∀ r r',tU f r r' 0 [] = some (sN f.Alters r'.length):=by
    intro r r'
    exact fB (step:=fun w:Int × List aZ=>jO f r r' w.1 w.2) (fun i=>((i:Int),sN (f.Alters.take i) r'.length)) f.Alters.length (sN f.Alters r'.length) (by
      intro i hi
      have h:(sN (f.Alters.take i) r'.length).length ≤ f.Alters.length:=A5 _ f.Alters i
      simp only [jO,mN hi,if_true,eQ _ _ hi,Option.bind_some,b9 (show i < 9223372036854775807 by omega)]
      unfold sN at h ⊢
      rw [xN _ _ _ hi]
      by_cases q:(el f.Alters i).At ≤ (r'.length:Int)
      · rw [if_pos (decide_eq_true q),if_pos (decide_eq_true q),if_pos (by omega)]
      · rw [if_neg (fun z=>q (of_decide_eq_true z)),if_neg (fun z=>q (of_decide_eq_true z))]) (by
      simp only [jO,oF,if_false,List.take_length])
  have h4:∀ r r' r'',tY f r r' r'' 0 [] = some (j8 f.Facts r''.length):=by
    intro r r' r''
    exact fB (step:=fun w:Int × List bG=>jN f r r' r'' w.1 w.2) (fun i=>((i:Int),j8 (f.Facts.take i) r''.length)) f.Facts.length (j8 f.Facts r''.length) (by
      intro i hi
      have h:(j8 (f.Facts.take i) r''.length).length ≤ f.Facts.length:=A5 _ f.Facts i
      simp only [jN,mN hi,if_true,eQ _ _ hi,Option.bind_some,b9 (show i < 9223372036854775807 by omega),RH]
      unfold j8 at h ⊢
      rw [xN _ _ _ hi]
      by_cases q:0 ≤ (el f.Facts i).At ∧ (el f.Facts i).At < (r''.length:Int)
      · rw [if_pos (decide_eq_true q),if_pos (decide_eq_true q),if_pos (by omega)]
      · rw [if_neg (fun z=>q (of_decide_eq_true z)),if_neg (fun z=>q (of_decide_eq_true z))]) (by
      simp only [jN,oF,if_false,List.take_length])
  simp only [h1,h2,h3,h4,Option.bind_some]
  rfl
theorem GN (f:aB) (hs:f.Signs.length < 1000000) (ha:f.Acts.length < 1000000) (hl:f.Alters.length < 1000000) (hf:f.Facts.length < 1000000):fJ f f = some true:=by
  have h1:kK f f 0 = some (.inl ()):=fB (step:=fun w:Int=>eI f f w) (fun i=>(i:Int)) f.Signs.length (.inl ()) (by
    intro i hi
    simp only [eI,mN hi,if_true,eQ _ _ hi,Option.bind_some,b9 (show i < 9223372036854775807 by omega),beq_self_eq_true,Bool.and_true,Bool.not_true,Bool.false_eq_true,if_false]) (by
    simp only [eI,oF,if_false])
  have h2:kM f f 0 = some (.inl ()):=fB (step:=fun w:Int=>eM f f w) (fun i=>(i:Int)) f.Alters.length (.inl ()) (by
    intro i hi
    simp only [eM,mN hi,if_true,eQ _ _ hi,Option.bind_some,b9 (show i < 9223372036854775807 by omega),beq_self_eq_true,Bool.and_true,Bool.not_true,Bool.false_eq_true,if_false]) (by
    simp only [eM,oF,if_false])
  have h3:kN f f 0 = some (.inl ()):=fB (step:=fun w:Int=>eO f f w) (fun i=>(i:Int)) f.Acts.length (.inl ()) (by
    intro i hi
    simp only [eO,mN hi,if_true,eQ _ _ hi,Option.bind_some,b9 (show i < 9223372036854775807 by omega),beq_self_eq_true,Bool.and_true,Bool.not_true,Bool.false_eq_true,if_false]) (by
    simp only [eO,oF,if_false])
  have h4:kI f f 0 = some (.inl ()):=fB (step:=fun w:Int=>eN f f w) (fun i=>(i:Int)) f.Facts.length (.inl ()) (by
    intro i hi
    simp only [eN,mN hi,if_true,eQ _ _ hi,Option.bind_some,b9 (show i < 9223372036854775807 by omega),beq_self_eq_true,Bool.and_true,Bool.not_true,Bool.false_eq_true,if_false]) (by
    simp only [eN,oF,if_false])
  unfold fJ
  simp only [h1,h2,h3,h4,Option.bind_some,Sum.elim_inl,beq_self_eq_true,bne_self_eq_false,Bool.and_true,Bool.not_true,Bool.false_eq_true,if_false]
def nP (m x:Int):Int:=if x < m then x else m
def LG:List Int→Int
  | []=>-1
  | x :: l=>l.foldl nP x
def kP (S:List aO):List Int:=(S.filter fun x=>decide (x.Kind = 1)).map aO.Day
def nG (A:List bB):List Int:=(A.filter fun x=>decide (x.Kind = 1)).map bB.Day
def oM (x:bB):Option Int:=if x.Kind = 2 then some x.Day else none
def eZ (f:aB):Int:=if f.Bill.Tenor.Kind = 0 then (f.Acts.findSome? oM).getD (-1) else if f.Bill.Tenor.Kind = 1 then LG (kP f.Signs ++ nG f.Acts) else -1
theorem TK (S:List aO) (i:Nat) (h:i < S.length):kP (S.take (i + 1)) = if (el S i).Kind = 1 then kP (S.take i) ++ [(el S i).Day] else kP (S.take i):=by
  unfold kP
  rw [xN _ _ _ h]
  by_cases q:(el S i).Kind = 1 <;> simp [q]
theorem UJ (S:List bB) (i:Nat) (h:i < S.length):nG (S.take (i + 1)) = if (el S i).Kind = 1 then nG (S.take i) ++ [(el S i).Day] else nG (S.take i):=by
  unfold nG
  rw [xN _ _ _ h]
  by_cases q:(el S i).Kind = 1 <;> simp [q]
theorem M6 (S:List aO) (i:Nat):(kP (S.take i)).length ≤ S.length:=by unfold kP; rw [List.length_map]; exact A5 _ S i
theorem MH (S:List bB) (i:Nat):(nG (S.take i)).length ≤ S.length:=by unfold nG; rw [List.length_map]; exact A5 _ S i
theorem aIG (l:List Int) (h0:l ≠ []) (hl:l.length < 1000000):iF l = some (LG l):=by
  cases l with
  | nil=>exact absurd rfl h0
  | cons x t =>
    unfold iF
    have h1:j0 (x :: t) x 1 = some (t.foldl nP x):=by
      have:=fB (step:=fun w:Int × Int=>dX (x :: t) w.1 w.2) (fun i=>((t.take i).foldl nP x,((i + 1:Nat):Int))) t.length (t.foldl nP x) (by
        intro i hi
        simp only [dX,mN (show i + 1 < (x :: t).length by simpa using hi),if_true,eQ (x :: t) (i + 1) (by simpa using hi),Option.bind_some,b9 (show i + 1 < 9223372036854775807 by simp at hl; omega)]
        rw [AD t i hi,List.foldl_append]
        rfl) (by
        simp only [dX,List.take_length]
        rw [if_neg (by simp)])
      exact this
    rw [if_neg (by simp; omega),show at? (x :: t) 0 = some x from rfl,Option.bind_some,h1]
    rfl
theorem WG (f:aB) (hs:f.Signs.length < 100000) (ha:f.Acts.length < 100000):j7 f = some (eZ f):=by
  unfold j7
  have h1:pX f 0 [] = some (if f.Bill.Tenor.Kind = 1 then kP f.Signs else []):=by
   have:=fB (step:=fun w:Int × List Int=>gZ f w.1 w.2) (fun i=>((i:Int),if f.Bill.Tenor.Kind = 1 then kP (f.Signs.take i) else [])) f.Signs.length (if f.Bill.Tenor.Kind = 1 then kP f.Signs else []) (by
    intro i hi
    have h:=M6 f.Signs i
    simp only [gZ,mN hi,if_true,eQ _ _ hi,Option.bind_some,b9 (show i < 9223372036854775807 by omega),beq_iff_eq,TK _ _ hi]
    by_cases q:f.Bill.Tenor.Kind = 1
    · simp only [if_pos q]
      by_cases q' : (el f.Signs i).Kind = 1
      · rw [if_pos q',if_pos q',if_pos (by omega)]
      · rw [if_neg q',if_neg q']
    · simp only [if_neg q]) (by
    simp only [gZ,oF,if_false,List.take_length])
   have e0:(if f.Bill.Tenor.Kind = 1 then kP (f.Signs.take 0) else []) = []:=by split <;> rfl
   simp only [e0] at this
   exact this
  have hj:∀ (p:Int) (l:List Int) (x:bB),l.length < 1000000→kS f p l x = some (if f.Bill.Tenor.Kind = 1 ∧ x.Kind = 1 then l ++ [x.Day] else l):=by
    intro p l x h
    simp only [kS,beq_iff_eq]
    by_cases q:f.Bill.Tenor.Kind = 1 <;> by_cases q' : x.Kind = 1 <;> simp [q,q'] <;> omega
  have hm:(kP f.Signs).length ≤ f.Signs.length:=by have:=M6 f.Signs f.Signs.length; rwa [List.take_length] at this
  have h3:pZ f 0 (if f.Bill.Tenor.Kind = 1 then kP f.Signs else []) = some (N1 (if f.Bill.Tenor.Kind = 1 then kP f.Signs ++ nG f.Acts else []) (if f.Bill.Tenor.Kind = 0 then f.Acts.findSome? oM else none)):=by
    have:=qM (step:=fun w:Int × List Int=>iD f w.1 w.2) (fun i=>((i:Int),if f.Bill.Tenor.Kind = 1 then kP f.Signs ++ nG (f.Acts.take i) else [])) f.Acts.length (fun i=>if f.Bill.Tenor.Kind = 0 then oM (el f.Acts i) else none) (if f.Bill.Tenor.Kind = 1 then kP f.Signs ++ nG f.Acts else []) (by
      intro i hi
      have h:=MH f.Acts i
      simp only [iD,mN hi,if_true,eQ _ _ hi,Option.bind_some,b9 (show i < 9223372036854775807 by omega),beq_iff_eq,UJ _ _ hi]
      by_cases q:f.Bill.Tenor.Kind = 1
      · simp only [if_pos q]
        rw [if_neg (by omega),if_neg (by omega),hj _ _ _ (by rw [List.length_append]; omega),Option.bind_some]
        by_cases q' : (el f.Acts i).Kind = 1
        · rw [if_pos ⟨q,q'⟩,if_pos q',List.append_assoc]
        · rw [if_neg (fun z=>q' z.2),if_neg q']
      · simp only [if_neg q,hj _ [] _ (by simp),Option.bind_some]
        by_cases q0:f.Bill.Tenor.Kind = 0
        · rw [if_pos q0,if_pos q0]
          unfold oM
          by_cases q' : (el f.Acts i).Kind = 2
          · rw [if_pos q',if_pos q']
          · rw [if_neg q',if_neg q',if_neg (fun z=>q z.1)]
        · rw [if_neg q0,if_neg q0,if_neg (fun z=>q z.1)]) (by
      simp only [iD,oF,if_false,List.take_length])
    have e:h9 (fun i=>if f.Bill.Tenor.Kind = 0 then oM (el f.Acts i) else none) 0 f.Acts.length = if f.Bill.Tenor.Kind = 0 then f.Acts.findSome? oM else none:=by
      by_cases q:f.Bill.Tenor.Kind = 0
      · simp only [if_pos q]; exact HR oM f.Acts
      · simp only [if_neg q]; exact (kU _ _).2 fun _ _ _=>rfl
    rw [e] at this
    have e0:(if f.Bill.Tenor.Kind = 1 then kP f.Signs ++ nG (f.Acts.take 0) else []) = if f.Bill.Tenor.Kind = 1 then kP f.Signs else []:=by split <;> simp [nG]
    simp only [e0] at this
    exact this
  rw [h1,Option.bind_some,h3,Option.bind_some,aB0]
  unfold eZ
  have hma:(nG f.Acts).length ≤ f.Acts.length:=by have:=MH f.Acts f.Acts.length; rwa [List.take_length] at this
  by_cases q0:f.Bill.Tenor.Kind = 0
  · rw [if_pos q0,if_pos q0]
    cases f.Acts.findSome? oM with
    | none=>simp [show ¬ f.Bill.Tenor.Kind = 1 by omega]
    | some x=>rfl
  · rw [if_neg q0,if_neg q0]
    by_cases q:f.Bill.Tenor.Kind = 1
    · simp only [if_pos q]
      cases e:kP f.Signs ++ nG f.Acts with
      | nil=>rfl
      | cons x t =>
        rw [if_neg (by simp; omega),← e,aIG _ (by rw [e]; simp) (by rw [List.length_append]; omega)]
        rfl
    · simp [if_neg q]
end Go.Proofs.Ytfhebiceipgdmaa
