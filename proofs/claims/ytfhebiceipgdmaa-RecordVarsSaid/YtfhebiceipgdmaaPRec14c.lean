/- What the functions of layer 14 answer: the variables of a case. -/
import Derived.Test.YtfhebiceipgdmaaPRealm
import Derived.Test.YtfhebiceipgdmaaPRec14b
set_option linter.unusedVariables false
set_option linter.unusedSimpArgs false
namespace Go.Proofs.Ytfhebiceipgdmaa
open Go.RowKit Vm
def flagW (x m:Int):Int:=IntKind.wrap .i64 (BitVec.ofInt (IntKind.bits .i64) x &&& BitVec.ofInt (IntKind.bits .i64) m).toNat
theorem flag1 (x:Int):(flagW x 1 == 1) = (flagW x 1 != 0):=by
  unfold flagW
  rw [show BitVec.ofInt (IntKind.bits .i64) 1 = BitVec.twoPow (IntKind.bits .i64) 0 from by decide,BitVec.and_twoPow]
  split <;> decide
theorem flag2 (x:Int):(flagW x 2 == 2) = (flagW x 2 != 0):=by
  unfold flagW
  rw [show BitVec.ofInt (IntKind.bits .i64) 2 = BitVec.twoPow (IntKind.bits .i64) 1 from by decide,BitVec.and_twoPow]
  split <;> decide
theorem flag4 (x:Int):(flagW x 4 == 4) = (flagW x 4 != 0):=by
  unfold flagW
  rw [show BitVec.ofInt (IntKind.bits .i64) 4 = BitVec.twoPow (IntKind.bits .i64) 2 from by decide,BitVec.and_twoPow]
  split <;> decide
theorem ref_truth_eq (b:Bool):mallongeref14_truth b = some ⟨true,if b = true then 1 else 0⟩:=by unfold mallongeref14_truth mallongeref14_number; cases b <;> rfl
theorem has_eq (x m:Int):mallongeref14_has x m = some (flagW x m == m):=rfl
def altB (c:GCase):Bool:=c.File.Alters.any fun a=>decide (a.At ≤ c.Sign)
theorem any_step {α:Type} [Inhabited α] (p:α→Bool) (l:List α) (i:Nat) (h:i < l.length):(l.take (i + 1)).any p = ((l.take i).any p || p (el l i)):=by
  rw [take_step l i h,List.any_append]
  simp
theorem index_any {α:Type} [Inhabited α] (p:α→Bool) (l:List α):decide (((firstO (fun i=>if p (el l i) = true then some (i:Int) else none) 0 l.length).getD (-1)) ≥ 0) = l.any p:=by
  cases e:firstO (fun i=>if p (el l i) = true then some (i:Int) else none) 0 l.length with
  | none =>
    have h:=(firstO_none _ _).1 e
    symm
    have:l.any p = false:=by
      rw [List.any_eq_false]
      intro x hx
      obtain ⟨i,hi,rfl⟩:=mem_el hx
      have:=h i (Nat.zero_le _) (by omega)
      split at this
      · cases this
      · assumption
    rw [this]; rfl
  | some x =>
    obtain ⟨i,_,hi,h3,_⟩:=firstO_some _ _ e
    split at h3
    · rename_i q
      cases h3
      have:l.any p = true:=List.any_eq_true.2 ⟨el l i,el_mem l i (by omega),q⟩
      rw [this]
      simp
    · cases h3
theorem contains_eq (l:List GAlter) (c:GCase) (hl:l.length < 1000000):mslices_ContainsFunc_api_Alter_api_Alter_s1 l c = some (l.any fun a=>decide (a.At ≤ c.Sign)):=by
  unfold mslices_ContainsFunc_api_Alter_api_Alter_s1 mslices_IndexFunc_api_Alter_api_Alter_s1
  have h:mslices_IndexFunc_api_Alter_api_Alter_s1_l1 l c 0 = some (toS () (firstO (fun i=>if decide ((el l i).At ≤ c.Sign) = true then some (i:Int) else none) 0 l.length)):=iter_first (step:=fun w=>mslices_IndexFunc_api_Alter_api_Alter_s1_l1_s l c w) (fun i=>(i:Int)) l.length (fun i=>if decide ((el l i).At ≤ c.Sign) = true then some (i:Int) else none) () (by
    intro i hi
    simp only [mslices_IndexFunc_api_Alter_api_Alter_s1_l1_s,lt_t hi,if_true,at_el _ _ hi,Option.bind_some,wrap_succ (show i < 9223372036854775807 by omega),mrecord_Vars_1_s1]
    split <;> rfl) (by
    simp only [mslices_IndexFunc_api_Alter_api_Alter_s1_l1_s,lt_f,if_false])
  rw [h,Option.bind_some,elim_toS,← index_any (fun a:GAlter=>decide (a.At ≤ c.Sign)) l]
  cases firstO (fun i=>if decide ((el l i).At ≤ c.Sign) = true then some (i:Int) else none) 0 l.length <;> rfl
theorem ref_alt_eq (c:GCase) (p:List GCell) (q:GCell) (x:GSign) (hl:c.File.Alters.length < 1000000):mallongeref14_Vars_l1 c p q x false 0 = some (altB c):=iter_all (step:=fun w:Bool × Int=>mallongeref14_Vars_l1_s c p q x w.1 w.2) (fun i=>((c.File.Alters.take i).any fun a=>decide (a.At ≤ c.Sign),(i:Int))) c.File.Alters.length (altB c) (by
    intro i hi
    simp only [mallongeref14_Vars_l1_s,lt_t hi,if_true,at_el _ _ hi,Option.bind_some,wrap_succ (show i < 9223372036854775807 by omega),any_step _ _ _ hi]
    cases (c.File.Alters.take i).any fun a=>decide (a.At ≤ c.Sign) <;> simp) (by
    simp only [mallongeref14_Vars_l1_s,lt_f,if_false,List.take_length,altB])
def ordOf (r:GRealm) (a:Int):Int:=if 0 ≤ a ∧ a < (r.Cities.length:Int) then (el r.Cities a.toNat).Order else -1
theorem ord_eq (r:GRealm) (a:Int):mrealm_OrderAt r a = some (ordOf r a):=by
  unfold mrealm_OrderAt ordOf
  rw [show mrealm_in a (r.Cities.length:Int) = some (decide (0 ≤ a ∧ a < (r.Cities.length:Int))) from by
    unfold mrealm_in
    by_cases h:a ≥ 0
    · rw [if_pos (decide_eq_true h)]; simp [show 0 ≤ a from h]
    · rw [if_neg (fun q=>h (of_decide_eq_true q)),decide_eq_false (fun q=>h q.1)],Option.bind_some]
  by_cases h:0 ≤ a ∧ a < (r.Cities.length:Int)
  · rw [if_pos h,if_neg (by simp [h]),at_eq _ _ h.1 h.2]; rfl
  · rw [if_neg h,if_pos (by simp only [decide_eq_false h,Bool.not_false])]
theorem ref_ord_eq (r:GRealm) (a:Int) (hr:r.Cities.length < 1000000):mallongeref09_OrderAt r a = some (ordOf r a):=by
  unfold mallongeref09_OrderAt ordOf mallongeref09_Within
  rw [wrap_id (by omega) (by omega)]
  by_cases h:0 ≤ a ∧ a < (r.Cities.length:Int)
  · rw [if_pos (decide_eq_true h.1),Option.bind_some,if_pos (decide_eq_true (by omega)),if_pos h,at_eq _ _ h.1 h.2]; rfl
  · rw [if_neg h]
    by_cases h0:0 ≤ a
    · rw [if_pos (decide_eq_true h0),Option.bind_some,if_neg (fun q=>h ⟨h0,by have:=of_decide_eq_true q; omega⟩)]
    · rw [if_neg (fun q=>h0 (of_decide_eq_true q)),Option.bind_some,if_neg (by simp)]
def bitC (b:Bool):GCell:=⟨true,if b = true then 1 else 0⟩
def holdOf (c:GCase):Int:=if 0 > c.Holder then 0 else c.Holder
def headOf (r:GRealm) (c:GCase) (x:GSign) (gap:Int):List GCell :=
  [⟨true,c.File.Bill.Sum⟩,⟨true,c.File.Bill.Parts⟩,⟨true,c.File.Bill.Tenor.Kind⟩,⟨true,c.File.Bill.Rate⟩,⟨true,x.Kind⟩,⟨true,c.Defence⟩,⟨true,gap⟩,
   bitC (flagW c.File.Bill.Flags 1 != 0),bitC (c.File.Bill.Payee == (-1)),bitC (flagW c.File.Bill.Flags 4 != 0),bitC (flagW c.File.Bill.Flags 2 != 0),bitC (ordOf r c.File.Bill.City != ordOf r c.File.Bill.Pay),bitC (altB c),bitC (flagW x.Flags 1 != 0),bitC (decide (gap > 0))]
def tailOf (F:List GFact) (s h:Int):List GCell:=[factOf F 0 s,factOf F 1 s,factOf F 2 s,factOf F 3 h,factOf F 4 h]
def cellsOf (r:GRealm) (c:GCase) (x:GSign) (gap:Int):List GCell:=headOf r c x gap ++ tailOf c.File.Facts c.Sign (holdOf c)
def gapOf (c:GCase) (x:GSign):Int:=if c.Due = -1 then 0 else IntKind.wrap .i64 (x.Day - c.Due)
def goodC (c:GCase):Prop:=0 ≤ c.Sign ∧ c.Sign < (c.File.Signs.length:Int) ∧ -1 ≤ c.Holder ∧ c.Holder < (c.File.Signs.length:Int) ∧ -1 ≤ c.Due ∧ c.Due ≤ 100000 ∧ 0 ≤ (el c.File.Signs c.Sign.toNat).Day ∧ (el c.File.Signs c.Sign.toNat).Day ≤ 100000
instance (c:GCase):Decidable (goodC c):=by unfold goodC; exact inferInstance
theorem good_iff {c:GCase}:goodC c ↔ (0 ≤ c.Sign ∧ c.Sign < (c.File.Signs.length:Int) ∧ -1 ≤ c.Holder ∧ c.Holder < (c.File.Signs.length:Int) ∧ -1 ≤ c.Due ∧ c.Due ≤ 100000 ∧ 0 ≤ (el c.File.Signs c.Sign.toNat).Day ∧ (el c.File.Signs c.Sign.toNat).Day ≤ 100000):=Iff.rfl
def varsOf (r:GRealm) (c:GCase):List GCell:=if goodC c then cellsOf r c (el c.File.Signs c.Sign.toNat) (gapOf c (el c.File.Signs c.Sign.toNat)) else []
theorem gI {α β:Type} (p:List α) (k:Nat) (g:Option β) (h:k < p.length):(if 0 ≤ k ∧ k < p.length then (p[k]?).bind (fun _=>g) else none) = g:=by
  rw [if_pos ⟨Nat.zero_le _,h⟩,List.getElem?_eq_getElem h]; rfl
theorem gJ {α β:Type} (p:List α) (k:Nat) (g:Option β) (h:k < p.length):(if k < p.length then g else none) = g:=if_pos h
theorem twenty {p:List GCell} (h:p.length = 20):∃ a b c d e f g i j k l m n o q r s t u v,p = [a,b,c,d,e,f,g,i,j,k,l,m,n,o,q,r,s,t,u,v]:=by
  match p,h with
  | [a,b,c,d,e,f,g,i,j,k,l,m,n,o,q,r,s,t,u,v],_=>exact ⟨a,b,c,d,e,f,g,i,j,k,l,m,n,o,q,r,s,t,u,v,rfl⟩
theorem vars_j1 (c:GCase) (p:List GCell) (hp:p.length = 20) (hf:c.File.Facts.length < 1000000):mrecord_Vars_j1 c p = some ((p.set 18 (factOf c.File.Facts 3 (holdOf c))).set 19 (factOf c.File.Facts 4 (holdOf c))):=by
  unfold mrecord_Vars_j1
  simp only [fact_eq _ _ _ hf,Option.bind_some]
  rw [gI _ 18 _ (by simp [hp]),gI _ 19 _ (by simp [hp])]
  rfl
theorem vars_j2 (c:GCase) (p:List GCell) (hp:p.length = 20) (hf:c.File.Facts.length < 1000000):mrecord_Vars_j2 c p = some (p.take 15 ++ tailOf c.File.Facts c.Sign (holdOf c)):=by
  unfold mrecord_Vars_j2
  simp only [fact_eq _ _ _ hf,Option.bind_some]
  rw [gI _ 15 _ (by simp [hp]),gI _ 16 _ (by simp [hp]),gI _ 17 _ (by simp [hp]),vars_j1 c _ (by simp [hp]) hf]
  obtain ⟨a,b,c',d,e,f,g,i,j,k,l,m,n,o,q,r,s,t,u,v,rfl⟩:=twenty hp
  rfl
theorem vars_j4 (r:GRealm) (c:GCase) (x:GSign) (gap:Int) (hf:c.File.Facts.length < 1000000) (hl:c.File.Alters.length < 1000000):mrecord_Vars_j4 r c x gap = some (cellsOf r c x gap):=by
  unfold mrecord_Vars_j4
  rw [if_pos (by omega),gJ _ 0 _ (by simp),gJ _ 1 _ (by simp),gJ _ 2 _ (by simp),gJ _ 3 _ (by simp),gJ _ 4 _ (by simp),gJ _ 5 _ (by simp),gJ _ 6 _ (by simp)]
  have hj:∀ p:List GCell,p.length = 20→mrecord_Vars_j3 r c gap x p = some (p.take 7 ++ ((headOf r c x gap).drop 7 ++ tailOf c.File.Facts c.Sign (holdOf c))):=by
    intro p hp
    unfold mrecord_Vars_j3
    simp only [contains_eq _ _ hl,ord_eq,Option.bind_some]
    rw [gJ _ 7 _ (by simp [hp]),gJ _ 8 _ (by simp [hp]),gJ _ 9 _ (by simp [hp]),gJ _ 10 _ (by simp [hp]),gJ _ 11 _ (by simp [hp]),gJ _ 12 _ (by simp [hp]),gJ _ 13 _ (by simp [hp]),gJ _ 14 _ (by simp [hp]),vars_j2 c _ (by simp [hp]) hf,Option.bind_some]
    obtain ⟨a,b,c',d,e,f,g,i,j,k,l,m,n,o,q,r',s,t,u,v,rfl⟩:=twenty hp
    rfl
  rw [hj _ (by simp)]
  rfl
theorem vars_eq (r:GRealm) (c:GCase) (hf:c.File.Facts.length < 1000000) (hl:c.File.Alters.length < 1000000):mrecord_Vars r c = some (varsOf r c):=by
  unfold mrecord_Vars varsOf
  rw [within_eq,Option.bind_some]
  by_cases h1:0 ≤ c.Sign ∧ c.Sign < (c.File.Signs.length:Int)
  · rw [if_neg (by simp [h1])]
    by_cases h2:-1 ≤ c.Holder
    · rw [if_neg (by simp; omega)]
      by_cases h3:c.Holder < (c.File.Signs.length:Int)
      · rw [if_neg (by simp only [decide_eq_true_eq]; split <;> omega)]
        have hj:mrecord_Vars_j5 r c = some (if 0 ≤ (el c.File.Signs c.Sign.toNat).Day ∧ (el c.File.Signs c.Sign.toNat).Day < 100001 then cellsOf r c (el c.File.Signs c.Sign.toNat) (gapOf c (el c.File.Signs c.Sign.toNat)) else []):=by
          unfold mrecord_Vars_j5
          rw [at_eq _ _ h1.1 h1.2,Option.bind_some,within_eq,Option.bind_some]
          by_cases h5:0 ≤ (el c.File.Signs c.Sign.toNat).Day ∧ (el c.File.Signs c.Sign.toNat).Day < 100001
          · rw [if_neg (by simp [h5]),if_pos h5]
            unfold gapOf
            by_cases h6:c.Due = -1
            · rw [if_neg (by simp [h6]),if_pos h6,vars_j4 _ _ _ _ hf hl]; rfl
            · rw [if_pos (by simp [h6]),if_neg h6,vars_j4 _ _ _ _ hf hl]; rfl
          · rw [if_pos (by simp only [decide_eq_false h5,Bool.not_false]),if_neg h5]
        by_cases h6:c.Due = -1
        · rw [if_neg (by simp [h6]),hj,Option.bind_some]
          congr 1
          by_cases h5:0 ≤ (el c.File.Signs c.Sign.toNat).Day ∧ (el c.File.Signs c.Sign.toNat).Day < 100001
          · rw [if_pos h5,if_pos (good_iff.2 (by omega))]
          · rw [if_neg h5,if_neg (fun q=>by have:=good_iff.1 q; omega)]
        · rw [if_pos (by simp [h6]),within_eq,Option.bind_some]
          by_cases h7:0 ≤ c.Due ∧ c.Due < 100001
          · rw [if_neg (by simp [h7]),hj,Option.bind_some]
            congr 1
            by_cases h5:0 ≤ (el c.File.Signs c.Sign.toNat).Day ∧ (el c.File.Signs c.Sign.toNat).Day < 100001
            · rw [if_pos h5,if_pos (good_iff.2 (by omega))]
            · rw [if_neg h5,if_neg (fun q=>by have:=good_iff.1 q; omega)]
          · rw [if_pos (by simp only [decide_eq_false h7,Bool.not_false]),if_neg (fun q=>by have:=good_iff.1 q; omega)]
      · rw [if_pos (by simp only [decide_eq_true_eq]; split <;> omega),if_neg (fun q=>by have:=good_iff.1 q; omega)]
    · rw [if_pos (by simp; omega),if_neg (fun q=>by have:=good_iff.1 q; omega)]
  · rw [if_pos (by simp only [decide_eq_false h1,Bool.not_false]),if_neg (fun q=>by have:=good_iff.1 q; omega)]
theorem rvars_j2 (c:GCase) (p:List GCell) (hp:p.length = 20) (hf:c.File.Facts.length < 1000000):mallongeref14_Vars_j2 c p = some ((p.set 18 (factOf c.File.Facts 3 (holdOf c))).set 19 (factOf c.File.Facts 4 (holdOf c))):=by
  unfold mallongeref14_Vars_j2
  simp only [ref_fact_eq _ _ _ hf,Option.bind_some]
  rw [gI _ 18 _ (by simp [hp]),gI _ 19 _ (by simp [hp])]
  rfl
theorem rvars_j3 (c:GCase) (p:List GCell) (hp:p.length = 20) (hf:c.File.Facts.length < 1000000):mallongeref14_Vars_j3 c p = some (p.take 15 ++ tailOf c.File.Facts c.Sign (holdOf c)):=by
  unfold mallongeref14_Vars_j3
  simp only [ref_fact_eq _ _ _ hf,Option.bind_some]
  rw [gI _ 15 _ (by simp [hp]),gI _ 16 _ (by simp [hp]),gI _ 17 _ (by simp [hp]),rvars_j2 c _ (by simp [hp]) hf]
  obtain ⟨a,b,c',d,e,f,g,i,j,k,l,m,n,o,q,r,s,t,u,v,rfl⟩:=twenty hp
  rfl
theorem rvars_j4 (r:GRealm) (c:GCase) (x:GSign) (p:List GCell) (hp:p.length = 20) (hf:c.File.Facts.length < 1000000) (hl:c.File.Alters.length < 1000000) (hr:r.Cities.length < 1000000):mallongeref14_Vars_j4 r c x p = some ((((p.set 11 (bitC (ordOf r c.File.Bill.City != ordOf r c.File.Bill.Pay))).set 12 (bitC (altB c))).set 13 (bitC (flagW x.Flags 1 != 0))).take 15 ++ tailOf c.File.Facts c.Sign (holdOf c)):=by
  unfold mallongeref14_Vars_j4
  simp only [ref_ord_eq _ _ hr,ref_truth_eq,has_eq,flag1,ref_alt_eq _ _ _ _ hl,Option.bind_some]
  rw [gI _ 11 _ (by simp [hp]),gI _ 12 _ (by simp [hp]),gI _ 13 _ (by simp [hp]),rvars_j3 c _ (by simp [hp]) hf]
  rfl
theorem rvars_j5 (r:GRealm) (c:GCase) (x:GSign) (p:List GCell) (hp:p.length = 20) (hf:c.File.Facts.length < 1000000) (hl:c.File.Alters.length < 1000000) (hr:r.Cities.length < 1000000):mallongeref14_Vars_j5 r c x p = some ((((((p.set 10 (bitC (flagW c.File.Bill.Flags 2 != 0))).set 9 (bitC (flagW c.File.Bill.Flags 4 != 0))).set 8 (bitC (c.File.Bill.Payee == (-1)))).set 11 (bitC (ordOf r c.File.Bill.City != ordOf r c.File.Bill.Pay))).set 12 (bitC (altB c))).set 13 (bitC (flagW x.Flags 1 != 0)) |>.take 15 |> (· ++ tailOf c.File.Facts c.Sign (holdOf c))):=by
  unfold mallongeref14_Vars_j5
  simp only [ref_truth_eq,has_eq,flag2,flag4,Option.bind_some]
  rw [gI _ 10 _ (by simp [hp]),gI _ 9 _ (by simp [hp]),gI _ 8 _ (by simp [hp]),rvars_j4 r c x _ (by simp [hp]) hf hl hr]
  rfl
theorem rvars_j6 (r:GRealm) (c:GCase) (x:GSign) (gap:Int) (p:List GCell) (hp:p.length = 20) (hf:c.File.Facts.length < 1000000) (hl:c.File.Alters.length < 1000000) (hr:r.Cities.length < 1000000):mallongeref14_Vars_j6 r c p x gap = some (p.take 6 ++ ((headOf r c x gap).drop 6 ++ tailOf c.File.Facts c.Sign (holdOf c))):=by
  unfold mallongeref14_Vars_j6 mallongeref14_number
  simp only [ref_truth_eq,has_eq,flag1,Option.bind_some]
  rw [gI _ 6 _ (by simp [hp]),gI _ 14 _ (by simp [hp]),gI _ 7 _ (by simp [hp]),rvars_j5 r c x _ (by simp [hp]) hf hl hr]
  obtain ⟨a,b,c',d,e,f,g,i,j,k,l,m,n,o,q,r',s,t,u,v,rfl⟩:=twenty hp
  rfl
theorem rvars_j8 (r:GRealm) (c:GCase) (x:GSign) (p:List GCell) (hp:p.length = 20) (hf:c.File.Facts.length < 1000000) (hl:c.File.Alters.length < 1000000) (hr:r.Cities.length < 1000000):mallongeref14_Vars_j8 r c x p = some (p.take 3 ++ ((headOf r c x (gapOf c x)).drop 3 ++ tailOf c.File.Facts c.Sign (holdOf c))):=by
  unfold mallongeref14_Vars_j8 mallongeref14_number
  simp only [Option.bind_some]
  rw [gI _ 3 _ (by simp [hp]),gI _ 4 _ (by simp [hp]),gI _ 5 _ (by simp [hp])]
  unfold mallongeref14_Vars_j7
  have e:∀ gap,mallongeref14_Vars_j6 r c (((p.set 3 ⟨true,c.File.Bill.Rate⟩).set 4 ⟨true,x.Kind⟩).set 5 ⟨true,c.Defence⟩) x gap = some (p.take 3 ++ ((headOf r c x gap).drop 3 ++ tailOf c.File.Facts c.Sign (holdOf c))):=by
    intro gap
    rw [rvars_j6 r c x gap _ (by simp [hp]) hf hl hr]
    obtain ⟨a,b,c',d,e,f,g,i,j,k,l,m,n,o,q,r',s,t,u,v,rfl⟩:=twenty hp
    rfl
  unfold gapOf
  by_cases h6:c.Due = -1
  · rw [if_neg (by simp [h6]),if_pos h6,e]; rfl
  · rw [if_pos (by simp [h6]),if_neg h6,e]; rfl
theorem three_set (a b c:GCell):((((List.replicate 20 (GCell.mk false 0)).set 0 a).set 1 b).set 2 c).take 3 = [a,b,c]:=rfl
theorem head_three (r:GRealm) (c:GCase) (x:GSign) (gap:Int) (t:List GCell):[⟨true,c.File.Bill.Sum⟩,⟨true,c.File.Bill.Parts⟩,⟨true,c.File.Bill.Tenor.Kind⟩] ++ ((headOf r c x gap).drop 3 ++ t) = headOf r c x gap ++ t:=rfl
theorem ref_vars_bad (r:GRealm) (c:GCase) (h:¬ goodC c):mallongeref14_Vars r c = some []:=by
  unfold mallongeref14_Vars
  rw [good_iff] at h
  by_cases h1:c.Sign < 0
  · rw [if_pos (decide_eq_true h1)]
  rw [if_neg (fun q=>h1 (of_decide_eq_true q))]
  by_cases h2:c.Sign ≥ (c.File.Signs.length:Int)
  · rw [if_pos (decide_eq_true h2)]
  rw [if_neg (fun q=>h2 (of_decide_eq_true q))]
  by_cases h3:c.Holder < -1
  · rw [if_pos (decide_eq_true h3)]
  rw [if_neg (fun q=>h3 (of_decide_eq_true q))]
  by_cases h4:c.Holder ≥ (c.File.Signs.length:Int)
  · rw [if_pos (decide_eq_true h4)]
  rw [if_neg (fun q=>h4 (of_decide_eq_true q))]
  by_cases h5:c.Due < -1
  · rw [if_pos (decide_eq_true h5)]
  rw [if_neg (fun q=>h5 (of_decide_eq_true q))]
  by_cases h6:c.Due > 100000
  · rw [if_pos (decide_eq_true h6)]
  rw [if_neg (fun q=>h6 (of_decide_eq_true q)),at_eq _ _ (by omega) (by omega),Option.bind_some]
  by_cases h7:(el c.File.Signs c.Sign.toNat).Day < 0
  · rw [if_pos (decide_eq_true h7)]
  · rw [if_neg (fun q=>h7 (of_decide_eq_true q)),if_pos (decide_eq_true (by omega))]
theorem ref_vars_good (r:GRealm) (c:GCase) (g:goodC c) (hf:c.File.Facts.length < 1000000) (hl:c.File.Alters.length < 1000000) (hr:r.Cities.length < 1000000):mallongeref14_Vars r c = some (cellsOf r c (el c.File.Signs c.Sign.toNat) (gapOf c (el c.File.Signs c.Sign.toNat))):=by
  unfold mallongeref14_Vars
  have h:=good_iff.1 g
  rw [if_neg (fun q=>by have:=of_decide_eq_true q; omega),if_neg (fun q=>by have:=of_decide_eq_true q; omega),if_neg (fun q=>by have:=of_decide_eq_true q; omega),if_neg (fun q=>by have:=of_decide_eq_true q; omega),if_neg (fun q=>by have:=of_decide_eq_true q; omega),if_neg (fun q=>by have:=of_decide_eq_true q; omega),at_eq _ _ h.1 h.2.1,Option.bind_some]
  generalize el c.File.Signs c.Sign.toNat = x at h ⊢
  rw [if_neg (fun q=>by have:=of_decide_eq_true q; omega),if_neg (fun q=>by have:=of_decide_eq_true q; omega),if_pos (by omega)]
  unfold mallongeref14_number
  rw [Option.bind_some,gI _ 0 _ (by simp),Option.bind_some,gI _ 1 _ (by simp),Option.bind_some,gI _ 2 _ (by simp),rvars_j8 r c _ _ (by simp) hf hl hr,Option.bind_some,three_set,head_three]
  rfl
theorem ref_vars_eq (r:GRealm) (c:GCase) (hf:c.File.Facts.length < 1000000) (hl:c.File.Alters.length < 1000000) (hr:r.Cities.length < 1000000):mallongeref14_Vars r c = some (varsOf r c):=by
  unfold varsOf
  by_cases h:goodC c
  · rw [if_pos h,ref_vars_good r c h hf hl hr]
  · rw [if_neg h,ref_vars_bad r c h]
end Go.Proofs.Ytfhebiceipgdmaa
