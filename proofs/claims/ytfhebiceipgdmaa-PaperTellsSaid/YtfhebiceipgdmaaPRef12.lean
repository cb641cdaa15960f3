/- What the references of layers 10 and 12 answer: the same as the program's. -/
import Derived.Test.YtfhebiceipgdmaaPLaw12c
set_option linter.unusedVariables false
set_option linter.unusedSimpArgs false
namespace Go.Proofs.Ytfhebiceipgdmaa
open Go.RowKit Vm
def XY (b:bF):Bool :=
 if b.Tenor.Kind = 0 ∨ b.Tenor.Kind = 4 then b.Tenor.N == 0 && b.Tenor.Unit == 0
 else if b.Tenor.Kind = 1 ∨ b.Tenor.Kind = 2 then decide (1 ≤ b.Tenor.N ∧ b.Tenor.N ≤ 400) && (b.Tenor.Unit == 0 || b.Tenor.Unit == 1)
 else if b.Tenor.Kind = 3 then decide (b.Day ≤ b.Tenor.N ∧ b.Tenor.N ≤ 100000) && b.Tenor.Unit == 0 else false
theorem TW (a b:Prop) [Decidable a] [Decidable b]:decide (a ∧ b) = (decide a && decide b):=by
 by_cases h:a <;> simp [h]
theorem VP (b:bF):jT b = some (XY b):=by
 unfold jT iZ jK XY
 simp only [beq_iff_eq,decide_eq_true_eq,TW]
 by_cases k0:b.Tenor.Kind = 0
 ·simp [k0]; split <;> simp_all
 by_cases k4:b.Tenor.Kind = 4
 ·simp [k4]; split <;> simp_all
 by_cases k1:b.Tenor.Kind = 1
 ·simp [k1]; (repeat' split) <;> simp_all <;> omega
 by_cases k2:b.Tenor.Kind = 2
 ·simp [k2]; (repeat' split) <;> simp_all <;> omega
 by_cases k3:b.Tenor.Kind = 3
 ·simp [k3]; (repeat' split) <;> simp_all <;> omega
 ·simp [k0,k1,k2,k3,k4]
theorem NO (b:bF):gS b = some (XY b):=by
 unfold gS XY
 simp only [beq_iff_eq,decide_eq_true_eq,TW]
 by_cases k0:b.Tenor.Kind = 0
 ·simp [k0]; split <;> simp_all
 by_cases k4:b.Tenor.Kind = 4
 ·simp [k4]; split <;> simp_all
 by_cases k1:b.Tenor.Kind = 1
 ·simp [k1]; (repeat' split) <;> simp_all <;> omega
 by_cases k2:b.Tenor.Kind = 2
 ·simp [k2]; (repeat' split) <;> simp_all <;> omega
 by_cases k3:b.Tenor.Kind = 3
 ·simp [k3]; (repeat' split) <;> simp_all <;> omega
 ·simp [k0,k1,k2,k3,k4]
theorem W1 (d:Int):kC d = some (decide (0 ≤ d ∧ d ≤ 100000)):=by
 unfold kC
 by_cases h:0 ≤ d <;> simp [h]
def sI (a n:Int):Bool:=decide (0 ≤ a ∧ a < n)
theorem ZZ (a n:Int):eZ a n = some (sI a n):=by
 unfold eZ sI
 by_cases h:a ≥ 0
 ·rw [if_pos (decide_eq_true h)]; simp [show 0 ≤ a from h]
 ·rw [if_neg (fun q=>h (of_decide_eq_true q)),decide_eq_false (fun q=>h q.1)]
theorem aAX (a n:Int):iD a n = some (a == -1 || sI a n):=by
 unfold iD
 rw [ZZ]
 cases a == -1 <;> rfl
def XA (r:aA) (b:bF):Bool :=
 sI b.Drawer r.Firms.length && (sI b.Drawee r.Firms.length && ((b.Payee == -1 || sI b.Payee r.Firms.length) && ((b.Need == -1 || sI b.Need r.Firms.length) && (sI b.Currency r.Currencies.length && (sI b.City r.Cities.length && sI b.Pay r.Cities.length)))))
def K8 (b:bF):Bool:=decide (1 ≤ b.Sum ∧ b.Sum ≤ 1099511627776 ∧ 0 ≤ b.Day ∧ b.Day ≤ 100000 ∧ 0 ≤ b.Rate ∧ b.Rate ≤ 1000)
def aDM (x:Int):Bool:=(IntKind.wrap .i64 (BitVec.ofInt (IntKind.bits .i64) x &&& BitVec.ofInt (IntKind.bits .i64) 4).toNat) != 0
def xJ (b:bF):Bool:=decide (0 ≤ b.Flags ∧ b.Flags ≤ 7) && (!(b.Payee == -1 && aDM b.Flags) && XY b)
def UA (r:aA) (b:bF):Int :=
 if BP r = 0 then (if XA r b = true then (if K8 b = true then (if 1 ≤ b.Parts ∧ b.Parts ≤ 4 then (if xJ b = true then (if b.Tenor.Kind = 4 then (xP r b.City b.Pay).2 else 0) else 2) else 15) else 3) else 1) else BP r
theorem aG3 (r:aA) (b:bF):jS r b = some (if K8 b = true then (if 1 ≤ b.Parts ∧ b.Parts ≤ 4 then (if xJ b = true then .inl () else .inr 2) else .inr 15) else .inr 3):=by
 have j1:jM r b = some (if xJ b = true then .inl () else .inr ()):=by
  unfold jM xJ aDM
  simp only [VP,Option.bind_some,decide_eq_true_eq]
  generalize XY b = t
  generalize (IntKind.wrap .i64 (BitVec.ofInt (IntKind.bits .i64) b.Flags &&& BitVec.ofInt (IntKind.bits .i64) 4).toNat != 0) = q
  by_cases h1:b.Flags < 0
  ·rw [if_pos h1,decide_eq_false (by omega)]; rfl
  by_cases h2:b.Flags > 7
  ·rw [if_neg h1,if_pos h2,decide_eq_false (by omega)]; rfl
  rw [if_neg h1,if_neg h2,decide_eq_true (by omega)]
  generalize (b.Payee == -1) = p
  cases q <;> cases p <;> cases t <;> rfl
 have j2:jJ r b = some (if 1 ≤ b.Parts ∧ b.Parts ≤ 4 then (if xJ b = true then .inl () else .inr 2) else .inr 15):=by
  unfold jJ
  simp only [j1,Option.bind_some,decide_eq_true_eq]
  by_cases h1:b.Parts < 1
  ·rw [if_pos h1,if_neg (by omega)]
  by_cases h2:b.Parts > 4
  ·rw [if_neg h1,if_pos h2,if_neg (by omega)]
  rw [if_neg h1,if_neg h2,if_pos (show 1 ≤ b.Parts ∧ b.Parts ≤ 4 by omega)]
  cases xJ b <;> rfl
 unfold jS
 simp only [j2,Option.bind_some,decide_eq_true_eq]
 unfold K8
 by_cases h1:b.Sum < 1
 ·rw [if_pos h1,decide_eq_false (by omega)]; rfl
 by_cases h2:b.Sum > 1099511627776
 ·rw [if_neg h1,if_pos h2,decide_eq_false (by omega)]; rfl
 by_cases h3:b.Day < 0
 ·rw [if_neg h1,if_neg h2,if_pos h3,decide_eq_false (by omega)]; rfl
 by_cases h4:b.Day > 100000
 ·rw [if_neg h1,if_neg h2,if_neg h3,if_pos h4,decide_eq_false (by omega)]; rfl
 by_cases h5:b.Rate < 0
 ·rw [if_neg h1,if_neg h2,if_neg h3,if_neg h4,if_pos h5,decide_eq_false (by omega)]; rfl
 by_cases h6:b.Rate > 1000
 ·rw [if_neg h1,if_neg h2,if_neg h3,if_neg h4,if_neg h5,if_pos h6,decide_eq_false (by omega)]; rfl
 rw [if_neg h1,if_neg h2,if_neg h3,if_neg h4,if_neg h5,if_neg h6,decide_eq_true (by omega),if_pos rfl]
 by_cases h7:1 ≤ b.Parts ∧ b.Parts ≤ 4
 ·rw [if_pos h7]
  cases xJ b <;> rfl
 ·rw [if_neg h7]; rfl
theorem aKe (r:aA) (b:bF) (bg:wT r) (w:aA.wf r):hJ r b = some (UA r b):=by
 have hu:=bg.usa
 have j4:∀ p,dC r b p = some (if (p && (sI b.Currency r.Currencies.length && (sI b.City r.Cities.length && sI b.Pay r.Cities.length))) = true then (if K8 b = true then (if 1 ≤ b.Parts ∧ b.Parts ≤ 4 then (if xJ b = true then (if b.Tenor.Kind = 4 then (xP r b.City b.Pay).2 else 0) else 2) else 15) else 3) else 1):=by
  intro p
  unfold dC
  simp only [aG3,HC,P7 r b.City b.Pay (by omega),Option.bind_some]
  show _ = some (if (p && (decide _ && (decide _ && decide _))) = true then _ else _)
  generalize decide (0 ≤ b.Currency ∧ b.Currency < (r.Currencies.length:Int)) = b1
  generalize decide (0 ≤ b.City ∧ b.City < (r.Cities.length:Int)) = b2
  generalize decide (0 ≤ b.Pay ∧ b.Pay < (r.Cities.length:Int)) = b3
  cases p
  ·rfl
  cases b1
  ·rfl
  cases b2
  ·rfl
  cases b3
  ·rfl
  show Sum.elim _ _ _ = _
  rw [if_pos (show (true && (true && (true && true))) = true from rfl)]
  by_cases c1:K8 b = true
  ·rw [if_pos c1,if_pos c1]
   by_cases c2:1 ≤ b.Parts ∧ b.Parts ≤ 4
   ·rw [if_pos c2,if_pos c2]
    by_cases c3:xJ b = true
    ·rw [if_pos c3,if_pos c3]
     by_cases c4:b.Tenor.Kind = 4
     ·simp [c4]
     ·simp [c4]
    ·rw [if_neg c3,if_neg c3]; rfl
   ·rw [if_neg c2,if_neg c2]; rfl
  ·rw [if_neg c1,if_neg c1]; rfl
 unfold hJ UA XA
 simp only [QC r bg w,HC,j4,Option.bind_some,bne_iff_ne,← show ∀ a n:Int,sI a n = decide (0 ≤ a ∧ a < n) from fun _ _=>rfl]
 by_cases c:BP r = 0
 ·rw [if_neg (not_not_intro c),if_pos c]
  generalize sI b.Drawer r.Firms.length = b1
  generalize sI b.Drawee r.Firms.length = b2
  generalize sI b.Payee r.Firms.length = b3
  generalize sI b.Need r.Firms.length = b4
  generalize (b.Payee == -1) = b5
  generalize (b.Need == -1) = b6
  generalize (sI b.Currency r.Currencies.length && (sI b.City r.Cities.length && sI b.Pay r.Cities.length)) = b7
  cases b1 <;> cases b2 <;> cases b5 <;> cases b3 <;> cases b6 <;> cases b4 <;> rfl
 ·rw [if_pos c,if_neg c]
theorem XJ (r:aA) (b:bF) (bg:wT r) (w:aA.wf r):gR r b = some (UA r b):=by
 have hu:=bg.usa
 unfold gR jL UA XA K8 xJ aDM
 simp only [PU r bg w,ZZ,aAX,NO,W1,PN r b.City b.Pay (by omega),Option.bind_some,bne_iff_ne,decide_eq_true_eq,Bool.not_eq_true']
 by_cases c:BP r = 0
 ·rw [if_neg (not_not_intro c),if_pos c]
  generalize sI b.Drawer r.Firms.length = b1
  generalize sI b.Drawee r.Firms.length = b2
  generalize (b.Payee == -1 || sI b.Payee r.Firms.length) = b3
  generalize (b.Need == -1 || sI b.Need r.Firms.length) = b4
  generalize sI b.Currency r.Currencies.length = b5
  generalize sI b.City r.Cities.length = b6
  generalize sI b.Pay r.Cities.length = b7
  cases b1
  ·rfl
  cases b2
  ·rfl
  cases b3
  ·rfl
  cases b4
  ·rfl
  cases b5
  ·rfl
  cases b6
  ·rfl
  cases b7
  ·rfl
  simp only [Bool.true_eq_false,if_false,Bool.and_self,if_true]
  by_cases h1:b.Sum < 1
  ·rw [if_pos h1,if_neg (by omega)]
  by_cases h2:b.Sum > 1099511627776
  ·rw [if_neg h1,if_pos h2,if_neg (by omega)]
  by_cases h3:0 ≤ b.Day ∧ b.Day ≤ 100000
  ·rw [if_neg h1,if_neg h2,decide_eq_true h3,if_neg (by decide)]
   by_cases h5:b.Rate < 0
   ·rw [if_pos h5,if_neg (by omega)]
   by_cases h6:b.Rate > 1000
   ·rw [if_neg h5,if_pos h6,if_neg (by omega)]
   rw [if_neg h5,if_neg h6,if_pos (show 1 ≤ b.Sum ∧ b.Sum ≤ 1099511627776 ∧ 0 ≤ b.Day ∧ b.Day ≤ 100000 ∧ 0 ≤ b.Rate ∧ b.Rate ≤ 1000 by omega)]
   by_cases h7:b.Parts < 1
   ·rw [if_pos h7,if_neg (by omega)]
   by_cases h8:b.Parts > 4
   ·rw [if_neg h7,if_pos h8,if_neg (by omega)]
   rw [if_neg h7,if_neg h8,if_pos (show 1 ≤ b.Parts ∧ b.Parts ≤ 4 by omega)]
   by_cases h9:b.Flags < 0
   ·rw [if_pos h9,decide_eq_false (by omega)]; rfl
   by_cases h10:b.Flags > 7
   ·rw [if_neg h9,if_pos h10,decide_eq_false (by omega)]; rfl
   rw [if_neg h9,if_neg h10,decide_eq_true (by omega)]
   have hf:∀ t:Bool,(if t = false then some 2 else (if ¬ b.Tenor.Kind = 4 then some (0:Int) else some (xP r b.City b.Pay).2).bind fun r14=>some r14) = some (if t = true then (if b.Tenor.Kind = 4 then (xP r b.City b.Pay).2 else 0) else 2):=by
    intro t
    cases t
    ·rfl
    ·by_cases k:b.Tenor.Kind = 4
     ·simp [k]
     ·simp [k]
   generalize XY b = t
   have hq:∀ x:Int,(x ≠ 0) ↔ (x != 0) = true:=fun x=>by simp
   simp only [hq]
   generalize (IntKind.wrap .i64 (BitVec.ofInt (IntKind.bits .i64) b.Flags &&& BitVec.ofInt (IntKind.bits .i64) 4).toNat != 0) = q
   generalize (b.Payee == -1) = p
   cases p
   ·cases q <;> simpa using hf t
   ·cases q
    ·simpa using hf t
    ·rfl
  ·rw [if_neg h1,if_neg h2,decide_eq_false h3,if_pos rfl,if_neg (by omega)]
 ·rw [if_pos c,if_neg c]
theorem aBD (r:aA) (b:bF) (bg:wT r) (w:aA.wf r):EN r b = UA r b:=by
 unfold EN
 rw [aKe r b bg w]; rfl
theorem TO (r:aA) (b:bF) (bg:wT r) (w:aA.wf r):gR r b = some (EN r b):=by
 rw [aBD r b bg w]; exact XJ r b bg w
end Go.Proofs.Ytfhebiceipgdmaa
