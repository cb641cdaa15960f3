/- What the functions of layer 14 answer: the file of a day, equality, the day of sight. -/
import Derived.Test.YtfhebiceipgdmaaPRec14
set_option linter.unusedVariables false
set_option linter.unusedSimpArgs false
namespace Go.Proofs.Ytfhebiceipgdmaa
open Go.RowKit Vm
def upS (S:List GSign) (d:Int):List GSign:=S.takeWhile fun x=>decide (x.Day ≤ d)
def upA (A:List GAct) (d:Int):List GAct:=A.takeWhile fun x=>decide (x.Day ≤ d)
def altOf (L:List GAlter) (n:Nat):List GAlter:=L.filter fun x=>decide (x.At ≤ (n:Int))
def factsOf (F:List GFact) (n:Nat):List GFact:=F.filter fun x=>decide (0 ≤ x.At ∧ x.At < (n:Int))
def atOf (f:GFile) (d:Int):GFile:=GFile.mk f.Bill (upS f.Signs d) (altOf f.Alters (upS f.Signs d).length) (upA f.Acts d) (factsOf f.Facts (upS f.Signs d).length)
theorem within_eq (a n:Int):mrecord_within a n = some (decide (0 ≤ a ∧ a < n)):=by
  unfold mrecord_within
  by_cases h:a ≥ 0
  · rw [if_pos (decide_eq_true h)]; simp [show 0 ≤ a from h]
  · rw [if_neg (fun q=>h (of_decide_eq_true q)),decide_eq_false (fun q=>h q.1)]
theorem at_eq14 (f:GFile) (d:Int) (hs:f.Signs.length < 1000000) (ha:f.Acts.length < 1000000) (hl:f.Alters.length < 1000000) (hf:f.Facts.length < 1000000):mrecord_At f d = some (atOf f d):=by
  unfold mrecord_At
  have h1:mrecord_At_l1 f d 0 [] = some (upS f.Signs d):=by
    have:=iter_scan (step:=fun w:Int × List GSign=>mrecord_At_l1_s f d w.1 w.2) (fun i=>((i:Int),f.Signs.take i)) f.Signs.length (fun i=>if decide ((el f.Signs i).Day ≤ d) = true then none else some (f.Signs.take i)) f.Signs (by
      intro i hi
      have:=take_len f.Signs i
      simp only [mrecord_At_l1_s,lt_t hi,if_true,at_el _ _ hi,Option.bind_some,wrap_succ (show i < 9223372036854775807 by omega),decide_eq_true_eq]
      by_cases q:(el f.Signs i).Day ≤ d
      · rw [if_neg (show ¬ (el f.Signs i).Day > d by omega),if_pos (by omega),if_pos q,take_step _ _ hi]
      · rw [if_pos (show (el f.Signs i).Day > d by omega),if_neg q]) (by
      simp only [mrecord_At_l1_s,lt_f,if_false,List.take_length])
    rw [firstS_take (fun x:GSign=>decide (x.Day ≤ d))] at this
    exact this
  have h2:∀ r,mrecord_At_l2 f d r 0 [] = some (upA f.Acts d):=by
    intro r
    have:=iter_scan (step:=fun w:Int × List GAct=>mrecord_At_l2_s f d r w.1 w.2) (fun i=>((i:Int),f.Acts.take i)) f.Acts.length (fun i=>if decide ((el f.Acts i).Day ≤ d) = true then none else some (f.Acts.take i)) f.Acts (by
      intro i hi
      have:=take_len f.Acts i
      simp only [mrecord_At_l2_s,lt_t hi,if_true,at_el _ _ hi,Option.bind_some,wrap_succ (show i < 9223372036854775807 by omega),decide_eq_true_eq]
      by_cases q:(el f.Acts i).Day ≤ d
      · rw [if_neg (show ¬ (el f.Acts i).Day > d by omega),if_pos (by omega),if_pos q,take_step _ _ hi]
      · rw [if_pos (show (el f.Acts i).Day > d by omega),if_neg q]) (by
      simp only [mrecord_At_l2_s,lt_f,if_false,List.take_length])
    rw [firstS_take (fun x:GAct=>decide (x.Day ≤ d))] at this
    exact this
  have h3:∀ r r',mrecord_At_l3 f r r' 0 [] = some (altOf f.Alters r'.length):=by
    intro r r'
    exact iter_all (step:=fun w:Int × List GAlter=>mrecord_At_l3_s f r r' w.1 w.2) (fun i=>((i:Int),altOf (f.Alters.take i) r'.length)) f.Alters.length (altOf f.Alters r'.length) (by
      intro i hi
      have h:(altOf (f.Alters.take i) r'.length).length ≤ f.Alters.length:=filter_len _ f.Alters i
      simp only [mrecord_At_l3_s,lt_t hi,if_true,at_el _ _ hi,Option.bind_some,wrap_succ (show i < 9223372036854775807 by omega)]
      unfold altOf at h ⊢
      rw [filter_step _ _ _ hi]
      by_cases q:(el f.Alters i).At ≤ (r'.length:Int)
      · rw [if_pos (decide_eq_true q),if_pos (decide_eq_true q),if_pos (by omega)]
      · rw [if_neg (fun z=>q (of_decide_eq_true z)),if_neg (fun z=>q (of_decide_eq_true z))]) (by
      simp only [mrecord_At_l3_s,lt_f,if_false,List.take_length])
  have h4:∀ r r' r'',mrecord_At_l4 f r r' r'' 0 [] = some (factsOf f.Facts r''.length):=by
    intro r r' r''
    exact iter_all (step:=fun w:Int × List GFact=>mrecord_At_l4_s f r r' r'' w.1 w.2) (fun i=>((i:Int),factsOf (f.Facts.take i) r''.length)) f.Facts.length (factsOf f.Facts r''.length) (by
      intro i hi
      have h:(factsOf (f.Facts.take i) r''.length).length ≤ f.Facts.length:=filter_len _ f.Facts i
      simp only [mrecord_At_l4_s,lt_t hi,if_true,at_el _ _ hi,Option.bind_some,wrap_succ (show i < 9223372036854775807 by omega),within_eq]
      unfold factsOf at h ⊢
      rw [filter_step _ _ _ hi]
      by_cases q:0 ≤ (el f.Facts i).At ∧ (el f.Facts i).At < (r''.length:Int)
      · rw [if_pos (decide_eq_true q),if_pos (decide_eq_true q),if_pos (by omega)]
      · rw [if_neg (fun z=>q (of_decide_eq_true z)),if_neg (fun z=>q (of_decide_eq_true z))]) (by
      simp only [mrecord_At_l4_s,lt_f,if_false,List.take_length])
  simp only [h1,h2,h3,h4,Option.bind_some]
  rfl
theorem ref_at_eq (f:GFile) (d:Int) (hs:f.Signs.length < 1000000) (ha:f.Acts.length < 1000000) (hl:f.Alters.length < 1000000) (hf:f.Facts.length < 1000000):mallongeref14_At f d = some (atOf f d):=by
  unfold mallongeref14_At
  have h1:mallongeref14_At_l1 f d 0 = some (((upS f.Signs d).length:Nat):Int):=by
    have:=iter_scan (step:=fun w:Int=>mallongeref14_At_l1_s f d w) (fun i=>(i:Int)) f.Signs.length (fun i=>if decide ((el f.Signs i).Day ≤ d) = true then none else some (i:Int)) (f.Signs.length:Int) (by
      intro i hi
      simp only [mallongeref14_At_l1_s,lt_t hi,if_true,at_el _ _ hi,Option.bind_some,wrap_succ (show i < 9223372036854775807 by omega),decide_eq_true_eq]
      by_cases q:(el f.Signs i).Day ≤ d
      · rw [if_pos q,if_pos q]
      · rw [if_neg q,if_neg q]) (by
      simp only [mallongeref14_At_l1_s,lt_f,if_false])
    rw [firstS_len (fun x:GSign=>decide (x.Day ≤ d))] at this
    exact this
  have h2:∀ r,mallongeref14_At_l2 f d r 0 = some (((upA f.Acts d).length:Nat):Int):=by
    intro r
    have:=iter_scan (step:=fun w:Int=>mallongeref14_At_l2_s f d r w) (fun i=>(i:Int)) f.Acts.length (fun i=>if decide ((el f.Acts i).Day ≤ d) = true then none else some (i:Int)) (f.Acts.length:Int) (by
      intro i hi
      simp only [mallongeref14_At_l2_s,lt_t hi,if_true,at_el _ _ hi,Option.bind_some,wrap_succ (show i < 9223372036854775807 by omega),decide_eq_true_eq]
      by_cases q:(el f.Acts i).Day ≤ d
      · rw [if_pos q,if_pos q]
      · rw [if_neg q,if_neg q]) (by
      simp only [mallongeref14_At_l2_s,lt_f,if_false])
    rw [firstS_len (fun x:GAct=>decide (x.Day ≤ d))] at this
    exact this
  have h3:∀ (n:Nat) r,mallongeref14_At_l3 f (n:Int) r 0 [] = some (altOf f.Alters n):=by
    intro n r
    exact iter_all (step:=fun w:Int × List GAlter=>mallongeref14_At_l3_s f n r w.1 w.2) (fun i=>((i:Int),altOf (f.Alters.take i) n)) f.Alters.length (altOf f.Alters n) (by
      intro i hi
      have h:(altOf (f.Alters.take i) n).length ≤ f.Alters.length:=filter_len _ f.Alters i
      simp only [mallongeref14_At_l3_s,lt_t hi,if_true,at_el _ _ hi,Option.bind_some,wrap_succ (show i < 9223372036854775807 by omega)]
      unfold altOf at h ⊢
      rw [filter_step _ _ _ hi]
      by_cases q:(el f.Alters i).At ≤ (n:Int)
      · rw [if_pos (decide_eq_true q),if_pos (decide_eq_true q),if_pos (by omega)]
      · rw [if_neg (fun z=>q (of_decide_eq_true z)),if_neg (fun z=>q (of_decide_eq_true z))]) (by
      simp only [mallongeref14_At_l3_s,lt_f,if_false,List.take_length])
  have h4:∀ r (n:Nat) r'',mallongeref14_At_l4 f r (n:Int) r'' 0 [] = some (factsOf f.Facts n):=by
    intro r n r''
    exact iter_all (step:=fun w:Int × List GFact=>mallongeref14_At_l4_s f r n r'' w.1 w.2) (fun i=>((i:Int),factsOf (f.Facts.take i) n)) f.Facts.length (factsOf f.Facts n) (by
      intro i hi
      have h:(factsOf (f.Facts.take i) n).length ≤ f.Facts.length:=filter_len _ f.Facts i
      simp only [mallongeref14_At_l4_s,lt_t hi,if_true,at_el _ _ hi,Option.bind_some,wrap_succ (show i < 9223372036854775807 by omega),decide_eq_true_eq]
      unfold factsOf at h ⊢
      rw [filter_step _ _ _ hi]
      by_cases q:(el f.Facts i).At ≥ 0
      · by_cases q' : (el f.Facts i).At < (n:Int)
        · rw [if_pos q,if_pos q',if_pos (by omega),if_pos (decide_eq_true ⟨q,q'⟩)]
        · rw [if_pos q,if_neg q',if_neg (fun z=>q' (of_decide_eq_true z).2)]
      · rw [if_neg q,if_neg (fun z=>q (of_decide_eq_true z).1)]) (by
      simp only [mallongeref14_At_l4_s,lt_f,if_false,List.take_length])
  have b1:(upS f.Signs d).length ≤ f.Signs.length:=whole_le _ _
  have b2:(upA f.Acts d).length ≤ f.Acts.length:=whole_le _ _
  have s1:sliceL f.Signs 0 ((upS f.Signs d).length:Int) = upS f.Signs d:=by simp [sliceL]; exact take_whole _ _
  have s2:sliceL f.Acts 0 ((upA f.Acts d).length:Int) = upA f.Acts d:=by simp [sliceL]; exact take_whole _ _
  simp only [h1,h2,h3,h4,Option.bind_some,s1,s2]
  rw [if_pos (by unfold sliceOk; omega),if_pos (by omega),if_pos (by unfold sliceOk; omega),if_pos (by omega)]
  rfl
theorem same_refl (f:GFile) (hs:f.Signs.length < 1000000) (ha:f.Acts.length < 1000000) (hl:f.Alters.length < 1000000) (hf:f.Facts.length < 1000000):mallongeref14_Same f f = some true:=by
  have h1:mallongeref14_Same_l1 f f 0 = some (.inl ()):=iter_all (step:=fun w:Int=>mallongeref14_Same_l1_s f f w) (fun i=>(i:Int)) f.Signs.length (.inl ()) (by
    intro i hi
    simp only [mallongeref14_Same_l1_s,lt_t hi,if_true,at_el _ _ hi,Option.bind_some,wrap_succ (show i < 9223372036854775807 by omega),beq_self_eq_true,Bool.and_true,Bool.not_true,Bool.false_eq_true,if_false]) (by
    simp only [mallongeref14_Same_l1_s,lt_f,if_false])
  have h2:mallongeref14_Same_l2 f f 0 = some (.inl ()):=iter_all (step:=fun w:Int=>mallongeref14_Same_l2_s f f w) (fun i=>(i:Int)) f.Alters.length (.inl ()) (by
    intro i hi
    simp only [mallongeref14_Same_l2_s,lt_t hi,if_true,at_el _ _ hi,Option.bind_some,wrap_succ (show i < 9223372036854775807 by omega),beq_self_eq_true,Bool.and_true,Bool.not_true,Bool.false_eq_true,if_false]) (by
    simp only [mallongeref14_Same_l2_s,lt_f,if_false])
  have h3:mallongeref14_Same_l3 f f 0 = some (.inl ()):=iter_all (step:=fun w:Int=>mallongeref14_Same_l3_s f f w) (fun i=>(i:Int)) f.Acts.length (.inl ()) (by
    intro i hi
    simp only [mallongeref14_Same_l3_s,lt_t hi,if_true,at_el _ _ hi,Option.bind_some,wrap_succ (show i < 9223372036854775807 by omega),beq_self_eq_true,Bool.and_true,Bool.not_true,Bool.false_eq_true,if_false]) (by
    simp only [mallongeref14_Same_l3_s,lt_f,if_false])
  have h4:mallongeref14_Same_l4 f f 0 = some (.inl ()):=iter_all (step:=fun w:Int=>mallongeref14_Same_l4_s f f w) (fun i=>(i:Int)) f.Facts.length (.inl ()) (by
    intro i hi
    simp only [mallongeref14_Same_l4_s,lt_t hi,if_true,at_el _ _ hi,Option.bind_some,wrap_succ (show i < 9223372036854775807 by omega),beq_self_eq_true,Bool.and_true,Bool.not_true,Bool.false_eq_true,if_false]) (by
    simp only [mallongeref14_Same_l4_s,lt_f,if_false])
  unfold mallongeref14_Same
  simp only [h1,h2,h3,h4,Option.bind_some,Sum.elim_inl,beq_self_eq_true,bne_self_eq_false,Bool.and_true,Bool.not_true,Bool.false_eq_true,if_false]
theorem cells_refl (l:List GCell) (hl:l.length < 1000000):mallongeref14_SameCells l l = some true:=by
  have h1:mallongeref14_SameCells_l1 l l 0 = some (.inl ()):=iter_all (step:=fun w:Int=>mallongeref14_SameCells_l1_s l l w) (fun i=>(i:Int)) l.length (.inl ()) (by
    intro i hi
    simp only [mallongeref14_SameCells_l1_s,lt_t hi,if_true,at_el _ _ hi,Option.bind_some,wrap_succ (show i < 9223372036854775807 by omega),beq_self_eq_true,Bool.and_true,Bool.not_true,Bool.false_eq_true,if_false]) (by
    simp only [mallongeref14_SameCells_l1_s,lt_f,if_false])
  unfold mallongeref14_SameCells
  simp only [h1,Option.bind_some,Sum.elim_inl,bne_self_eq_false,Bool.false_eq_true,if_false]
def least2 (m x:Int):Int:=if x < m then x else m
def minL:List Int→Int
  | []=>-1
  | x :: l=>l.foldl least2 x
def sDays (S:List GSign):List Int:=(S.filter fun x=>decide (x.Kind = 1)).map GSign.Day
def aDays (A:List GAct):List Int:=(A.filter fun x=>decide (x.Kind = 1)).map GAct.Day
def showD (x:GAct):Option Int:=if x.Kind = 2 then some x.Day else none
def seenOf (f:GFile):Int:=if f.Bill.Tenor.Kind = 0 then (f.Acts.findSome? showD).getD (-1) else if f.Bill.Tenor.Kind = 1 then minL (sDays f.Signs ++ aDays f.Acts) else -1
theorem sDays_step (S:List GSign) (i:Nat) (h:i < S.length):sDays (S.take (i + 1)) = if (el S i).Kind = 1 then sDays (S.take i) ++ [(el S i).Day] else sDays (S.take i):=by
  unfold sDays
  rw [filter_step _ _ _ h]
  by_cases q:(el S i).Kind = 1 <;> simp [q]
theorem aDays_step (S:List GAct) (i:Nat) (h:i < S.length):aDays (S.take (i + 1)) = if (el S i).Kind = 1 then aDays (S.take i) ++ [(el S i).Day] else aDays (S.take i):=by
  unfold aDays
  rw [filter_step _ _ _ h]
  by_cases q:(el S i).Kind = 1 <;> simp [q]
theorem sDays_len (S:List GSign) (i:Nat):(sDays (S.take i)).length ≤ S.length:=by unfold sDays; rw [List.length_map]; exact filter_len _ S i
theorem aDays_len (S:List GAct) (i:Nat):(aDays (S.take i)).length ≤ S.length:=by unfold aDays; rw [List.length_map]; exact filter_len _ S i
theorem min_eq (l:List Int) (h0:l ≠ []) (hl:l.length < 1000000):mslices_Min_int_int l = some (minL l):=by
  cases l with
  | nil=>exact absurd rfl h0
  | cons x t =>
    unfold mslices_Min_int_int
    have h1:mslices_Min_int_int_l1 (x :: t) x 1 = some (t.foldl least2 x):=by
      have:=iter_all (step:=fun w:Int × Int=>mslices_Min_int_int_l1_s (x :: t) w.1 w.2) (fun i=>((t.take i).foldl least2 x,((i + 1:Nat):Int))) t.length (t.foldl least2 x) (by
        intro i hi
        simp only [mslices_Min_int_int_l1_s,lt_t (show i + 1 < (x :: t).length by simpa using hi),if_true,at_el (x :: t) (i + 1) (by simpa using hi),Option.bind_some,wrap_succ (show i + 1 < 9223372036854775807 by simp at hl; omega)]
        rw [take_step t i hi,List.foldl_append]
        rfl) (by
        simp only [mslices_Min_int_int_l1_s,List.take_length]
        rw [if_neg (by simp)])
      exact this
    rw [if_neg (by simp; omega),show at? (x :: t) 0 = some x from rfl,Option.bind_some,h1]
    rfl
def stp (s:Bool × Int) (x:Int):Bool × Int:=if s.1 = false ∨ x < s.2 then (true,x) else s
theorem stp_true (l:List Int) (m:Int):l.foldl stp (true,m) = (true,l.foldl least2 m):=by
  induction l generalizing m with
  | nil=>rfl
  | cons x l ih =>
    simp only [List.foldl_cons]
    unfold stp least2
    by_cases q:x < m
    · rw [if_pos (.inr q),if_pos q]; exact ih x
    · rw [if_neg (by simp; omega),if_neg q]; exact ih m
theorem stp_min (l:List Int) (h:l ≠ []):l.foldl stp (false,0) = (true,minL l):=by
  cases l with
  | nil=>exact absurd rfl h
  | cons x l=>exact stp_true l x
theorem seen_eq (f:GFile) (hs:f.Signs.length < 100000) (ha:f.Acts.length < 100000):mrecord_Seen f = some (seenOf f):=by
  unfold mrecord_Seen
  have h1:mrecord_Seen_l1 f 0 [] = some (if f.Bill.Tenor.Kind = 1 then sDays f.Signs else []):=by
   have:=iter_all (step:=fun w:Int × List Int=>mrecord_Seen_l1_s f w.1 w.2) (fun i=>((i:Int),if f.Bill.Tenor.Kind = 1 then sDays (f.Signs.take i) else [])) f.Signs.length (if f.Bill.Tenor.Kind = 1 then sDays f.Signs else []) (by
    intro i hi
    have h:=sDays_len f.Signs i
    simp only [mrecord_Seen_l1_s,lt_t hi,if_true,at_el _ _ hi,Option.bind_some,wrap_succ (show i < 9223372036854775807 by omega),beq_iff_eq,sDays_step _ _ hi]
    by_cases q:f.Bill.Tenor.Kind = 1
    · simp only [if_pos q]
      by_cases q' : (el f.Signs i).Kind = 1
      · rw [if_pos q',if_pos q',if_pos (by omega)]
      · rw [if_neg q',if_neg q']
    · simp only [if_neg q]) (by
    simp only [mrecord_Seen_l1_s,lt_f,if_false,List.take_length])
   have e0:(if f.Bill.Tenor.Kind = 1 then sDays (f.Signs.take 0) else []) = []:=by split <;> rfl
   simp only [e0] at this
   exact this
  have hj:∀ (p:Int) (l:List Int) (x:GAct),l.length < 1000000→mrecord_Seen_j2 f p l x = some (if f.Bill.Tenor.Kind = 1 ∧ x.Kind = 1 then l ++ [x.Day] else l):=by
    intro p l x h
    simp only [mrecord_Seen_j2,beq_iff_eq]
    by_cases q:f.Bill.Tenor.Kind = 1 <;> by_cases q' : x.Kind = 1 <;> simp [q,q'] <;> omega
  have hm:(sDays f.Signs).length ≤ f.Signs.length:=by have:=sDays_len f.Signs f.Signs.length; rwa [List.take_length] at this
  have h3:mrecord_Seen_l3 f 0 (if f.Bill.Tenor.Kind = 1 then sDays f.Signs else []) = some (toS (if f.Bill.Tenor.Kind = 1 then sDays f.Signs ++ aDays f.Acts else []) (if f.Bill.Tenor.Kind = 0 then f.Acts.findSome? showD else none)):=by
    have:=iter_first (step:=fun w:Int × List Int=>mrecord_Seen_l3_s f w.1 w.2) (fun i=>((i:Int),if f.Bill.Tenor.Kind = 1 then sDays f.Signs ++ aDays (f.Acts.take i) else [])) f.Acts.length (fun i=>if f.Bill.Tenor.Kind = 0 then showD (el f.Acts i) else none) (if f.Bill.Tenor.Kind = 1 then sDays f.Signs ++ aDays f.Acts else []) (by
      intro i hi
      have h:=aDays_len f.Acts i
      simp only [mrecord_Seen_l3_s,lt_t hi,if_true,at_el _ _ hi,Option.bind_some,wrap_succ (show i < 9223372036854775807 by omega),beq_iff_eq,aDays_step _ _ hi]
      by_cases q:f.Bill.Tenor.Kind = 1
      · simp only [if_pos q]
        rw [if_neg (by omega),if_neg (by omega),hj _ _ _ (by rw [List.length_append]; omega),Option.bind_some]
        by_cases q' : (el f.Acts i).Kind = 1
        · rw [if_pos ⟨q,q'⟩,if_pos q',List.append_assoc]
        · rw [if_neg (fun z=>q' z.2),if_neg q']
      · simp only [if_neg q,hj _ [] _ (by simp),Option.bind_some]
        by_cases q0:f.Bill.Tenor.Kind = 0
        · rw [if_pos q0,if_pos q0]
          unfold showD
          by_cases q' : (el f.Acts i).Kind = 2
          · rw [if_pos q',if_pos q']
          · rw [if_neg q',if_neg q',if_neg (fun z=>q z.1)]
        · rw [if_neg q0,if_neg q0,if_neg (fun z=>q z.1)]) (by
      simp only [mrecord_Seen_l3_s,lt_f,if_false,List.take_length])
    have e:firstO (fun i=>if f.Bill.Tenor.Kind = 0 then showD (el f.Acts i) else none) 0 f.Acts.length = if f.Bill.Tenor.Kind = 0 then f.Acts.findSome? showD else none:=by
      by_cases q:f.Bill.Tenor.Kind = 0
      · simp only [if_pos q]; exact firstO_list showD f.Acts
      · simp only [if_neg q]; exact (firstO_none _ _).2 fun _ _ _=>rfl
    rw [e] at this
    have e0:(if f.Bill.Tenor.Kind = 1 then sDays f.Signs ++ aDays (f.Acts.take 0) else []) = if f.Bill.Tenor.Kind = 1 then sDays f.Signs else []:=by split <;> simp [aDays]
    simp only [e0] at this
    exact this
  rw [h1,Option.bind_some,h3,Option.bind_some,elim_toS]
  unfold seenOf
  have hma:(aDays f.Acts).length ≤ f.Acts.length:=by have:=aDays_len f.Acts f.Acts.length; rwa [List.take_length] at this
  by_cases q0:f.Bill.Tenor.Kind = 0
  · rw [if_pos q0,if_pos q0]
    cases f.Acts.findSome? showD with
    | none=>simp [show ¬ f.Bill.Tenor.Kind = 1 by omega]
    | some x=>rfl
  · rw [if_neg q0,if_neg q0]
    by_cases q:f.Bill.Tenor.Kind = 1
    · simp only [if_pos q]
      cases e:sDays f.Signs ++ aDays f.Acts with
      | nil=>rfl
      | cons x t =>
        rw [if_neg (by simp; omega),← e,min_eq _ (by rw [e]; simp) (by rw [List.length_append]; omega)]
        rfl
    · simp [if_neg q]
theorem ref_seen_eq (f:GFile) (hs:f.Signs.length < 100000) (ha:f.Acts.length < 100000):mallongeref14_Seen f = some (seenOf f):=by
  unfold mallongeref14_Seen seenOf
  by_cases q0:f.Bill.Tenor.Kind = 0
  · rw [if_pos (by simp [q0]),if_pos q0]
    have h1:mallongeref14_Seen_l1 f 0 = some (toS () (firstO (fun i=>showD (el f.Acts i)) 0 f.Acts.length)):=iter_first (step:=fun w=>mallongeref14_Seen_l1_s f w) (fun i=>(i:Int)) f.Acts.length (fun i=>showD (el f.Acts i)) () (by
      intro i hi
      simp only [mallongeref14_Seen_l1_s,lt_t hi,if_true,at_el _ _ hi,Option.bind_some,wrap_succ (show i < 9223372036854775807 by omega),beq_iff_eq,showD]
      by_cases q' : (el f.Acts i).Kind = 2
      · rw [if_pos q',if_pos q']
      · rw [if_neg q',if_neg q']) (by
      simp only [mallongeref14_Seen_l1_s,lt_f,if_false])
    rw [h1,Option.bind_some,elim_toS,firstO_list showD]
    cases f.Acts.findSome? showD <;> rfl
  · rw [if_neg (by simp [q0]),if_neg q0]
    have h2:mallongeref14_Seen_l2 f false 0 0 = some ((sDays f.Signs).foldl stp (false,0)):=by
      have:=iter_all (step:=fun w:Bool × Int × Int=>mallongeref14_Seen_l2_s f w.1 w.2.1 w.2.2) (fun i=>(((sDays (f.Signs.take i)).foldl stp (false,0)).1,((sDays (f.Signs.take i)).foldl stp (false,0)).2,(i:Int))) f.Signs.length ((sDays f.Signs).foldl stp (false,0)) (by
        intro i hi
        simp only [mallongeref14_Seen_l2_s,lt_t hi,if_true,at_el _ _ hi,Option.bind_some,wrap_succ (show i < 9223372036854775807 by omega),beq_iff_eq,sDays_step _ _ hi]
        generalize (sDays (f.Signs.take i)) = l
        by_cases q' : (el f.Signs i).Kind = 1
        · rw [if_pos q',if_pos q',List.foldl_append]
          generalize l.foldl stp (false,0) = s
          obtain ⟨a,b⟩:=s
          simp only [List.foldl_cons,List.foldl_nil,stp]
          cases a
          · rfl
          · by_cases q2:(el f.Signs i).Day < b <;> simp [q2]
        · rw [if_neg q',if_neg q']) (by
        simp only [mallongeref14_Seen_l2_s,lt_f,if_false,List.take_length])
      exact this
    have h3:∀ s:Bool × Int,mallongeref14_Seen_l3 f s.1 s.2 0 = some ((aDays f.Acts).foldl stp s):=by
      intro s
      have:=iter_all (step:=fun w:Bool × Int × Int=>mallongeref14_Seen_l3_s f w.1 w.2.1 w.2.2) (fun i=>(((aDays (f.Acts.take i)).foldl stp s).1,((aDays (f.Acts.take i)).foldl stp s).2,(i:Int))) f.Acts.length ((aDays f.Acts).foldl stp s) (by
        intro i hi
        simp only [mallongeref14_Seen_l3_s,lt_t hi,if_true,at_el _ _ hi,Option.bind_some,wrap_succ (show i < 9223372036854775807 by omega),beq_iff_eq,aDays_step _ _ hi]
        generalize (aDays (f.Acts.take i)) = l
        by_cases q' : (el f.Acts i).Kind = 1
        · rw [if_pos q',if_pos q',List.foldl_append]
          generalize l.foldl stp s = s
          obtain ⟨a,b⟩:=s
          simp only [List.foldl_cons,List.foldl_nil,stp]
          cases a
          · rfl
          · by_cases q2:(el f.Acts i).Day < b <;> simp [q2]
        · rw [if_neg q',if_neg q']) (by
        simp only [mallongeref14_Seen_l3_s,lt_f,if_false,List.take_length])
      exact this
    rw [h2,Option.bind_some,h3,Option.bind_some,← List.foldl_append]
    by_cases q:f.Bill.Tenor.Kind = 1
    · rw [if_neg (by simp [q]),if_pos q]
      by_cases e:sDays f.Signs ++ aDays f.Acts = []
      · rw [e]; rfl
      · rw [stp_min _ e]; rfl
    · rw [if_pos (by simp [q]),if_neg q]
end Go.Proofs.Ytfhebiceipgdmaa
