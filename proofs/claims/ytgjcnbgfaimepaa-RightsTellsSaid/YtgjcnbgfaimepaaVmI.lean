/- The machine's code within the round of a range over a function. A range over a function, the function run in its caller's place: what its call of yield does. A range over a function: the function is run in its caller's place. Rules for the range over a function. Slices of ints of one's own: sorted, made compact, their tail cleared. -/
import Derived.Test.YtgjcnbgfaimepaaVmD
import Derived.RangeFuncIn
import Derived.RangeFuncRecord
import Derived.OrdersIn
import Derived.Test.YtgjcnbgfaimepaaVmH
import Derived.RangeFuncOwn
import Derived.Test.YtgjcnbgfaimepaaVmF
import Derived.Lib.OwnBridge
namespace Go.Proofs.Ytgjcnbgfaimepaa
section
namespace Vm
open Go.RowKit
def WR (ro:Option Nat):Fence:={ Fence.wide with round:=ro }
def aKE (ops:Array Oper):Bool:=ops.all fun o=>match o.op with
 | .defer _=>false
 | _=>true
def PR:Code->Bool
 | .region _ ops _=>aKE ops
 | .seq a b=>PR a && PR b
 | .cond _ a b=>PR a && PR b
 | .block _ a=>PR a
 | .loop a=>PR a
 | _=>true
theorem aHa {ops:Array Oper} (h:aKE ops = true) {i:Nat} {o:Oper} (ho:ops[i]? = some o):∀ c,o.op ≠ .defer c:=by
 intro c e
 have:=Ħ.1 h o (ō ho)
 rw [e] at this
 cases this
section
variable {P:Program} {ro:Option Nat} {a:Act} {w:World}
theorem aNQ {n:Nat} {f:FuncId} {args:Array Value} {R:Ending->World->Prop} (h:Calls P f args w R):CallsIn (WR ro) n P f args w R:=(callsIn_wide (n:=n)).2 h
theorem aRQ {o:Oper} {K:Act->World->Prop} {Q:Exit->Act->World->Prop} (hd:∀ c,o.op ≠ .defer c) (h:o.wp P a w K Q):o.wpIn (WR ro) 0 P a w K Q:=by
 refine ⟨fun _ _=>trivial,?_⟩
 unfold Oper.wp at h
 rw [Oper.semAt_eq _ _ _ hd]
 generalize (execOp a.eval o).run P w = r at h ⊢
 cases r with
 | ok x w' =>
  cases x <;> first | exact h | exact h.elim | skip
  ·exact ⟨fun q=>(by cases q),aNQ h⟩
  ·refine ⟨fun q=>(by cases q),fun c cs _=>?_⟩
   obtain ⟨v,w2,q1,q2⟩:=h c cs
   exact ⟨v,w2,q1,stepsIn_wide.2 q2⟩
 | halt x w'=>cases x <;> first | exact h | exact h.elim
theorem aHb {ops:Array Oper} {Q:Exit->Act->World->Prop} (hnd:aKE ops = true) (hQ:¬ LetsOut Q):∀ (L:List Nat) (a:Act) (w:World),wpOps P ops Q L a w->wpOpsIn (WR ro) 0 P ops Q L a w
 | [],a,w,h=>h
 | i :: L,a,w,h=>by
  simp only [wpOps] at h
  simp only [wpOpsIn]
  cases ho:ops[i]? with
  | none=>rw [ho] at h; exact aHb hnd hQ L a w h
  | some o =>
   rw [ho] at h
   simp only at h ⊢
   split
   ·rename_i hw
    rw [Á hw] at h
    rcases h with h | h
    ·exact Oper.wpIn_mono (fun a w q=>aHb hnd hQ L a w q) (aRQ (aHa hnd ho) h)
    ·exact absurd h.2 hQ
   ·rename_i hw
    rw [Ã hw] at h
    exact ⟨fun _ _=>trivial,aHb hnd hQ L _ _ h⟩
theorem aGx {ops:Array Oper} {Q:Exit->Act->World->Prop} (hnd:aKE ops = true) (hQ:¬ LetsOut Q):∀ (fuel:Nat) (listed:Array Bool) (a:Act) (w:World),wpAny P .any ops Q fuel listed a w->wpAnyIn (WR ro) 0 P .any ops Q fuel listed a w
 | 0,listed,a,w,h=>h
 | fuel + 1,listed,a,w,h=>by
  refine ⟨h.1,fun i hi=>?_⟩
  have h2:=h.2 i hi
  unfold wpOp at h2
  unfold wpOpIn
  cases ho:ops[i]? with
  | none=>rw [ho] at h2; exact aGx hnd hQ fuel _ a w h2
  | some o =>
   rw [ho] at h2
   simp only at h2 ⊢
   split
   ·rename_i hw
    rw [Á hw] at h2
    rcases h2 with h2 | h2
    ·exact Oper.wpIn_mono (fun a w q=>aGx hnd hQ fuel _ a w q) (aRQ (aHa hnd ho) h2)
    ·exact absurd h2.2 hQ
   ·rename_i hw
    rw [Ã hw] at h2
    exact ⟨fun _ _=>trivial,aGx hnd hQ fuel _ _ _ h2⟩
end
theorem aEZ {F:Fence} {nn:Nat} {P:Program} {c:Code} {Q:Exit->Act->World->Prop} (G:Nat->Act->World->Prop) (zero:∀ a w,¬ G 0 a w) (round:∀ k a w,G (k + 1) a w->c.wpIn F nn P (Exit.then (fun a' w'=>G k a' w') Q) a w) :
  ∀ k a w,G k a w->(Code.loop c).wpIn F nn P Q a w:=by
 intro k a w hG
 have least:∀ a w,(∃ k,G k a w)->∃ k,G k a w ∧ ∀ j,G j a w->k <= j:=by
  intro a w ⟨k,hk⟩
  induction k using Nat.strongRecOn with
  | _ k ih =>
   by_cases h:∃ j,j < k ∧ G j a w
   ·obtain ⟨j,hj,hg⟩:=h; exact ih j hj hg
   ·exact ⟨k,hk,fun j hj=>ũ fun hlt=>h ⟨j,hlt,hj⟩⟩
 refine wpIn_loop (fun a w=>∃ k,G k a w) (fun a w=>@dite _ (∃ k,G k a w) (Classical.propDecidable _) (fun h=>(least a w h).choose) (fun _=>0)) ⟨k,hG⟩ ?_
 intro a w hI
 have hsp:=(least a w hI).choose_spec
 generalize hk0:(least a w hI).choose = k0 at hsp
 obtain ⟨g1,g2⟩:=hsp
 cases k0 with
 | zero=>exact absurd g1 (zero a w)
 | succ k1 =>
  refine wpIn_mono (round k1 a w g1) fun e a' w' hq=>?_
  cases e with
  | normal =>
   refine ⟨⟨k1,hq⟩,?_⟩
   have hI' : ∃ k,G k a' w':=⟨k1,hq⟩
   have h2:=(least a' w' hI').choose_spec.2 k1 hq
   simp only [dif_pos hI',dif_pos hI,hk0]
   omega
  | _=>exact hq
section
variable {P:Program} {nt:Nat} {w0:c8} {w:World} {h0 h:Hp} {a:Act} {hd:Nat->Value} {C:Nat->List D->Option D}
theorem XV {ro:Option Nat} (hC:vV P C) (hm:P.follows .mixedOrders = true) {ops:Array Oper} {l:List aS} (hF:aAg w0 ops) (hlow:aM (sN P nt ops) ops.toList = some (l.map aS.bare)) (hnd:aKE ops = true) {id:Nat} {draw:Bool} {sd:Option (List (Nat × Nat))} (hd:if draw then TI ops.toList = true ∧ sd = some (Y3 ops.toList) else sd = none)
  {s s' : St} (hr:iX C l sd s = some s') {hd' : Nat->Value} (r:Rl nt w0 h0 s.get s.blk a w h hd') {Q:Exit->Act->World->Prop} (hQ:∀ a' w' h' hd',Rl nt w0 h0 s'.get s'.blk a' w' h' hd'->Q .normal a' w'):(Code.region id ops draw).wpIn (WR ro) 0 P Q a w:=by
 have hQ' : ¬ LetsOut (fun e a w=>e = Exit.normal ∧ Q .normal a w):=fun ⟨_,_,q,_⟩=>nomatch q
 refine wpIn_mono (Q:=fun e a w=>e = Exit.normal ∧ Q .normal a w) ?_ (fun e a w q=>by obtain ⟨rfl,q⟩:=q; exact q)
 have hlen:ops.size = l.length:=by simpa using (bN hlow).1
 cases draw with
 | false =>
  simp only [ö,Ĵ] at hd
  subst hd
  simp only [iX] at hr
  obtain ⟨ps,hps⟩:=P4 hr
  have hst:=uD l (fun i=>ps.getD i ([],[])) (k:=0) (fun i=>by simp) (fun i _=>by simp) hps
  refine wpIn_region (aHb hnd hQ' _ _ _ ?_)
  have e:(List.range l.length).map (0 + ·) = List.range ops.size:=by rw [hlen]; simp
  rw [e] at hst
  exact YX hC hF hlow _ (s':=s'.fn) (fun a' w' h' hd' q=>⟨rfl,hQ a' w' h' hd' q⟩) _ s.fn a w h hd' r hst
 | true =>
  simp only [Č] at hd
  obtain ⟨hok,rfl⟩:=hd
  simp only [iX] at hr
  split at hr
  ·rename_i s2 ps hps
   split at hr
   ·rename_i hap
    cases hr
    have hst:=uD l (fun i=>ps.getD i ([],[])) (k:=0) (fun i=>by simp) (fun i _=>by simp) hps
    have e:(List.range l.length).map (0 + ·) = List.range ops.size:=by rw [hlen]; simp
    rw [e] at hst
    have hind:∀ p ∈ Y3 ops.toList,Ind l (fun i=>ps.getD i ([],[])) p.1 p.2:=by
     intro p hp x y hx hy
     have:=Ó.1 hap p hp
     obtain ⟨i,j⟩:=p
     simp only at hx hy this ⊢
     rw [hx,hy] at this
     have hpl:=PS hps
     have hi:=(Æ.1 hx).1
     have hj:=(Æ.1 hy).1
     have hi' : i < ps.length:=by omega
     have hj' : j < ps.length:=by omega
     have e1:ps[i]? = some (ps.getD i ([],[])):=by simp [List.getD,hi']
     have e2:ps[j]? = some (ps.getD j ([],[])):=by simp [List.getD,hj']
     rw [e1,e2] at this
     exact this
    refine wpIn_region_any hm (aGx hnd hQ' _ _ _ _ ?_)
    refine aDY hC hF hlow hok _ hind (s':=s'.fn) (fun a' w' h' hd' q=>⟨rfl,hQ a' w' h' hd' q⟩) ops.size (List.range ops.size) _ s.fn a _ h hd' (by simp) Ŋ (by simp) ?_ ?_ r.drew hst
    ·intro i
     simp only [Ď]
     constructor
     ·intro hi; exact ⟨hi,by simp [hi]⟩
     ·exact fun hi=>hi.1
    ·intro k hk
     exfalso
     simp only [Ì,ş] at hk
     split at hk <;> simp at hk
   ·cases hr
  ·cases hr
theorem aDT {ro:Option Nat} (hC:vV P C) (hm:P.follows .mixedOrders = true) (n:Nat):∀ (sc:aH) (c:Code) (s s' : St) (ex:Ex) (a:Act) (w:World) (h:Hp) (hd:Nat->Value) (Q:Exit->Act->World->Prop),
  B2 w0 c->PR c = true->sM P nt c = some sc.bare->aR C n sc s = some (ex,s')->Rl nt w0 h0 s.get s.blk a w h hd->(∀ a' w' h' hd',Rl nt w0 h0 s'.get s'.blk a' w' h' hd'->Q ex.go a' w')->c.wpIn (WR ro) 0 P Q a w:=by
 intro sc
 induction sc with
 | skip =>
  intro c s s' ex a w h hd Q hF hN hl he r hQ
  cases c <;> simp only [sM,aH.bare] at hl
  case skip=>simp only [aR,Å,Ĕ] at he; obtain ⟨rfl,rfl⟩:=he; exact wpIn_skip (hQ _ _ _ _ r)
  case region=>split at hl <;> first | (cases hl; done) | skip; split at hl <;> first | (cases hl; done) | skip; split at hl <;> cases hl
  case seq=>split at hl <;> cases hl
  case cond=>split at hl <;> cases hl
  case block=>rw [Â] at hl; obtain ⟨_,_,e⟩:=hl; cases e
  case loop=>rw [Â] at hl; obtain ⟨_,_,e⟩:=hl; cases e
  all_goals cases hl
 | region ops draw =>
  intro c s s' ex a w h hd Q hF hN hl he r hQ
  cases c <;> simp only [sM,aH.bare] at hl
  case region id rops dr =>
   split at hl
   ·cases hl
   ·rename_i l hlow
    simp only [aR] at he
    split at he
    ·rename_i s1 h1
     cases he
     split at hl
     ·rename_i hdr
      split at hl
      ·rename_i hok
       cases hl
       subst hdr
       exact XV hC hm hF hlow hN (draw:=true) (by simp [hok]) h1 r hQ
      ·cases hl
     ·rename_i hdr
      cases hl
      have:dr = false:=by simpa using hdr
      subst this
      exact XV hC hm hF hlow hN (draw:=false) (by simp) h1 r hQ
    ·cases he
  case seq=>split at hl <;> cases hl
  case cond=>split at hl <;> cases hl
  case block=>rw [Â] at hl; obtain ⟨_,_,e⟩:=hl; cases e
  case loop=>rw [Â] at hl; obtain ⟨_,_,e⟩:=hl; cases e
  all_goals cases hl
 | seq x y ihx ihy =>
  intro c s s' ex a w h hd Q hF hN hl he r hQ
  cases c <;> simp only [sM,aH.bare] at hl
  case region=>split at hl <;> first | (cases hl; done) | skip; split at hl <;> first | (cases hl; done) | skip; split at hl <;> cases hl
  case seq ca cb =>
   split at hl
   ·rename_i l1 l2 h1 h2
    cases hl
    simp only [PR,Ø] at hN
    refine wpIn_seq ?_
    simp only [aR] at he
    split at he
    ·rename_i s1 he1
     exact ihx ca s s1 .normal a w h hd _ hF.1 hN.1 h1 he1 r fun a' w' h' hd' r'=>ihy cb s1 s' ex a' w' h' hd' Q hF.2 hN.2 h2 he r' hQ
    ·rename_i hne
     refine ihx ca s s' ex a w h hd _ hF.1 hN.1 h1 he r fun a' w' h' hd' r'=>?_
     cases ex with
     | normal=>exact absurd he (hne _)
     | exit id=>exact hQ _ _ _ _ r'
     | ret=>exact hQ _ _ _ _ r'
   ·cases hl
  case cond=>split at hl <;> cases hl
  case block=>rw [Â] at hl; obtain ⟨_,_,e⟩:=hl; cases e
  case loop=>rw [Â] at hl; obtain ⟨_,_,e⟩:=hl; cases e
  all_goals cases hl
 | cond c x y ihx ihy =>
  intro cc s s' ex a w h hd Q hF hN hl he r hQ
  cases cc <;> simp only [sM,aH.bare] at hl
  case region=>split at hl <;> first | (cases hl; done) | skip; split at hl <;> first | (cases hl; done) | skip; split at hl <;> cases hl
  case seq=>split at hl <;> cases hl
  case cond co ca cb =>
   split at hl
   ·rename_i l0 l1 l2 h1 h2 h3
    cases hl
    simp only [PR,Ø] at hN
    have hc:=eE r.frame h1
    simp only [aR] at he
    split at he
    ·rename_i hb
     rw [hb] at hc
     exact wpIn_cond_true (mZ hc) (ihx ca s s' ex a w h hd Q hF.1 hN.1 h2 he r hQ)
    ·rename_i hb
     rw [hb] at hc
     exact wpIn_cond_false (mZ hc) (ihy cb s s' ex a w h hd Q hF.2 hN.2 h3 he r hQ)
    ·cases he
   ·cases hl
  case block=>rw [Â] at hl; obtain ⟨_,_,e⟩:=hl; cases e
  case loop=>rw [Â] at hl; obtain ⟨_,_,e⟩:=hl; cases e
  all_goals cases hl
 | block id x ih =>
  intro c s s' ex a w h hd Q hF hN hl he r hQ
  cases c <;> simp only [sM,aH.bare] at hl
  case region=>split at hl <;> first | (cases hl; done) | skip; split at hl <;> first | (cases hl; done) | skip; split at hl <;> cases hl
  case seq=>split at hl <;> cases hl
  case cond=>split at hl <;> cases hl
  case block id' ca =>
   rw [Â] at hl
   obtain ⟨l1,h1,e⟩:=hl
   cases e
   refine wpIn_block ?_
   simp only [aR] at he
   split at he
   ·rename_i id'' s1 he1
    refine ih ca s s1 (.exit id'') a w h hd _ hF hN h1 he1 r fun a' w' h' hd' r'=>?_
    simp only [Ex.go,Exit.inBlock]
    split at he
    ·rename_i hid
     cases he
     rw [Á hid]
     exact hQ _ _ _ _ r'
    ·rename_i hid
     cases he
     rw [Ã hid]
     exact hQ _ _ _ _ r'
   ·rename_i hne
    refine ih ca s s' ex a w h hd _ hF hN h1 he r fun a' w' h' hd' r'=>?_
    cases ex with
    | normal=>exact hQ _ _ _ _ r'
    | exit id=>exact absurd he (hne _ _)
    | ret=>exact hQ _ _ _ _ r'
  case loop=>rw [Â] at hl; obtain ⟨_,_,e⟩:=hl; cases e
  all_goals cases hl
 | loop x ih =>
  intro c s s' ex a w h hd Q hF hN hl he r hQ
  cases c <;> simp only [sM,aH.bare] at hl
  case region=>split at hl <;> first | (cases hl; done) | skip; split at hl <;> first | (cases hl; done) | skip; split at hl <;> cases hl
  case seq=>split at hl <;> cases hl
  case cond=>split at hl <;> cases hl
  case block=>rw [Â] at hl; obtain ⟨_,_,e⟩:=hl; cases e
  case loop ca =>
   rw [Â] at hl
   obtain ⟨l1,h1,e⟩:=hl
   cases e
   simp only [aR] at he
   refine aEZ (fun k a w=>∃ s h hd,w7 (aR C n x) k s = some (ex,s') ∧ Rl nt w0 h0 s.get s.blk a w h hd) (fun a w ⟨s,h,hd,q,_⟩=>by simp [w7] at q) ?_ n a w ⟨s,h,hd,he,r⟩
   rintro k a w ⟨s,h,hd,q,r⟩
   simp only [w7] at q
   split at q
   ·rename_i s1 he1
    exact ih ca s s1 .normal a w h hd _ hF hN h1 he1 r fun a' w' h' hd' r'=>⟨s1,h',hd',q,r'⟩
   ·rename_i hne
    refine ih ca s s' ex a w h hd _ hF hN h1 q r fun a' w' h' hd' r'=>?_
    cases ex with
    | normal=>exact absurd q (hne _)
    | exit id=>exact hQ _ _ _ _ r'
    | ret=>exact hQ _ _ _ _ r'
  all_goals cases hl
 | exit id =>
  intro c s s' ex a w h hd Q hF hN hl he r hQ
  cases c <;> simp only [sM,aH.bare] at hl
  case region=>split at hl <;> first | (cases hl; done) | skip; split at hl <;> first | (cases hl; done) | skip; split at hl <;> cases hl
  case seq=>split at hl <;> cases hl
  case cond=>split at hl <;> cases hl
  case block=>rw [Â] at hl; obtain ⟨_,_,e⟩:=hl; cases e
  case loop=>rw [Â] at hl; obtain ⟨_,_,e⟩:=hl; cases e
  case exit=>cases hl; simp only [aR,Å,Ĕ] at he; obtain ⟨rfl,rfl⟩:=he; exact wpIn_exit (hQ _ _ _ _ r)
  all_goals cases hl
 | ret =>
  intro c s s' ex a w h hd Q hF hN hl he r hQ
  cases c <;> simp only [sM,aH.bare] at hl
  case region=>split at hl <;> first | (cases hl; done) | skip; split at hl <;> first | (cases hl; done) | skip; split at hl <;> cases hl
  case seq=>split at hl <;> cases hl
  case cond=>split at hl <;> cases hl
  case block=>rw [Â] at hl; obtain ⟨_,_,e⟩:=hl; cases e
  case loop=>rw [Â] at hl; obtain ⟨_,_,e⟩:=hl; cases e
  case ret=>simp only [aR,Å,Ĕ] at he; obtain ⟨rfl,rfl⟩:=he; exact wpIn_ret (hQ _ _ _ _ r)
  all_goals cases hl
 | hand g =>
  intro c s s' ex a w h hd Q hF hN hl he r hQ
  cases c <;> simp only [sM,aH.bare] at hl
  case region=>split at hl <;> first | (cases hl; done) | skip; split at hl <;> first | (cases hl; done) | skip; split at hl <;> cases hl
  case seq=>split at hl <;> cases hl
  case cond=>split at hl <;> cases hl
  case block=>rw [Â] at hl; obtain ⟨_,_,e⟩:=hl; cases e
  case loop=>rw [Â] at hl; obtain ⟨_,_,e⟩:=hl; cases e
  all_goals cases hl
 | inl ops args dst f body res id slots ih =>
  intro c s s' ex a w h hd Q hF hN hl he r hQ
  cases c <;> simp only [sM,aH.bare] at hl
  case region=>split at hl <;> first | (cases hl; done) | skip; split at hl <;> first | (cases hl; done) | skip; split at hl <;> cases hl
  case seq=>split at hl <;> cases hl
  case cond=>split at hl <;> cases hl
  case block=>rw [Â] at hl; obtain ⟨_,_,e⟩:=hl; cases e
  case loop=>rw [Â] at hl; obtain ⟨_,_,e⟩:=hl; cases e
  all_goals cases hl
 | inlv ops x nc args dst f body res id slots ih =>
  intro c s s' ex a w h hd Q hF hN hl he r hQ
  cases c <;> simp only [sM,aH.bare] at hl
  case region=>split at hl <;> first | (cases hl; done) | skip; split at hl <;> first | (cases hl; done) | skip; split at hl <;> cases hl
  case seq=>split at hl <;> cases hl
  case cond=>split at hl <;> cases hl
  case block=>rw [Â] at hl; obtain ⟨_,_,e⟩:=hl; cases e
  case loop=>rw [Â] at hl; obtain ⟨_,_,e⟩:=hl; cases e
  all_goals cases hl
 | pre m x ih =>
  intro c s s' ex a w h hd Q hF hN hl he r hQ
  simp only [aH.bare] at hl
  simp only [aR] at he
  obtain ⟨h',hd',r'⟩:=D7 r m
  exact ih c _ s' ex a w h' hd' Q hF hN hl he r' hQ
 | post x m ih =>
  intro c s s' ex a w h hd Q hF hN hl he r hQ
  simp only [aH.bare] at hl
  simp only [aR] at he
  split at he
  ·rename_i s1 he1
   cases he
   refine ih c s s1 .normal a w h hd Q hF hN hl he1 r fun a' w' h' hd' r'=>?_
   obtain ⟨h'',hd'',r''⟩:=D7 r' m
   exact hQ _ _ _ _ r''
  ·rename_i hne
   exact ih c s s' ex a w h hd Q hF hN hl he r hQ
end
end Vm
end
section
namespace Vm
open Go.RowKit
def bW (I:c8->Hp->Prop) (P:Program) (nt:Nat) (c:Code) (sc:aH):Prop:=∀ (C:Nat->List D->Option D),vV P C->∀ (n:Nat) (w0:c8) (h0:Hp) (s s' : St) (ex:Ex) (a:Act) (w:World) (h:Hp) (hd:Nat->Value) (Q:Exit->Act->World->Prop),
 I w0 h0->aR C n sc s = some (ex,s')->Rl nt w0 h0 s.get s.blk a w h hd->(∀ a' w' h' hd',Rl nt w0 h0 s'.get s'.blk a' w' h' hd'->Q ex.go a' w')->c.wp P Q a w
section
variable {P:Program} {nt:Nat} {I:c8->Hp->Prop}
theorem bW.low (y:Nat) (hI:∀ w0 h0,I w0 h0->∀ d,d ≠ y->w0.F d = none) (hm:P.follows .mixedOrders = true) {c:Code} {sc:aH} (h:sM P nt c = some sc.bare) (hn:FK y sc = true):bW I P nt c sc :=
 fun C hC n w0 h0 s s' ex a w h' hd Q hi he r hQ=>aBI hC hm n sc c s s' ex a w h' hd Q (aDP (hI w0 h0 hi) sc c h hn) h he r hQ
theorem bW.seq {c d:Code} {x y:aH} (h1:bW I P nt c x) (h2:bW I P nt d y):bW I P nt (.seq c d) (.seq x y):=by
 intro C hC n w0 h0 s s' ex a w h hd Q hF he r hQ
 refine wp_seq ?_
 simp only [aR] at he
 split at he
 ·rename_i s1 he1
  exact h1 C hC n w0 h0 s s1 .normal a w h hd _ hF he1 r fun a' w' h' hd' r'=>h2 C hC n w0 h0 s1 s' ex a' w' h' hd' Q hF he r' hQ
 ·rename_i hne
  refine h1 C hC n w0 h0 s s' ex a w h hd _ hF he r fun a' w' h' hd' r'=>?_
  cases ex with
  | normal=>exact absurd he (hne _)
  | exit id=>exact hQ _ _ _ _ r'
  | ret=>exact hQ _ _ _ _ r'
theorem bW.pre {c:Code} {x:aH} (m:BE) (h1:bW I P nt c x):bW I P nt c (.pre m x):=by
 intro C hC n w0 h0 s s' ex a w h hd Q hF he r hQ
 simp only [aR] at he
 obtain ⟨h',hd',r'⟩:=D7 r m
 exact h1 C hC n w0 h0 _ s' ex a w h' hd' Q hF he r' hQ
theorem bW.post {c:Code} {x:aH} (m:BE) (h1:bW I P nt c x):bW I P nt c (.post x m):=by
 intro C hC n w0 h0 s s' ex a w h hd Q hF he r hQ
 simp only [aR] at he
 split at he
 ·rename_i s1 he1
  cases he
  refine h1 C hC n w0 h0 s s1 .normal a w h hd Q hF he1 r fun a' w' h' hd' r'=>?_
  obtain ⟨h'',hd'',r''⟩:=D7 r' m
  exact hQ _ _ _ _ r''
 ·rename_i hne
  exact h1 C hC n w0 h0 s s' ex a w h hd Q hF he r hQ
theorem bW.loop {c:Code} {x:aH} (h1:bW I P nt c x):bW I P nt (.loop c) (.loop x):=by
 intro C hC n w0 h0 s s' ex a w h hd Q hF he r hQ
 simp only [aR] at he
 refine ZR (fun k a w=>∃ s h hd,w7 (aR C n x) k s = some (ex,s') ∧ Rl nt w0 h0 s.get s.blk a w h hd) (fun a w ⟨s,h,hd,q,_⟩=>by simp [w7] at q) ?_ n a w ⟨s,h,hd,he,r⟩
 rintro k a w ⟨s,h,hd,q,r⟩
 simp only [w7] at q
 split at q
 ·rename_i s1 he1
  exact h1 C hC n w0 h0 s s1 .normal a w h hd _ hF he1 r fun a' w' h' hd' r'=>⟨s1,h',hd',q,r'⟩
 ·rename_i hne
  refine h1 C hC n w0 h0 s s' ex a w h hd _ hF q r fun a' w' h' hd' r'=>?_
  cases ex with
  | normal=>exact absurd q (hne _)
  | exit id=>exact hQ _ _ _ _ r'
  | ret=>exact hQ _ _ _ _ r'
theorem bW.block {c:Code} {x:aH} {id:Nat} (h1:bW I P nt c x):bW I P nt (.block id c) (.block id x):=by
 intro C hC n w0 h0 s s' ex a w h hd Q hF he r hQ
 refine wp_block ?_
 simp only [aR] at he
 split at he
 ·rename_i id'' s1 he1
  refine h1 C hC n w0 h0 s s1 (.exit id'') a w h hd _ hF he1 r fun a' w' h' hd' r'=>?_
  simp only [Ex.go,Exit.inBlock]
  split at he
  ·rename_i hid
   cases he
   rw [Á hid]
   exact hQ _ _ _ _ r'
  ·rename_i hid
   cases he
   rw [Ã hid]
   exact hQ _ _ _ _ r'
 ·rename_i hne
  refine h1 C hC n w0 h0 s s' ex a w h hd _ hF he r fun a' w' h' hd' r'=>?_
  cases ex with
  | normal=>exact hQ _ _ _ _ r'
  | exit id=>exact absurd he (hne _ _)
  | ret=>exact hQ _ _ _ _ r'
theorem bW.cond {co:Operand} {l:d7} {c d:Code} {x y:aH} (hl:qM co = some l) (h1:bW I P nt c x) (h2:bW I P nt d y):bW I P nt (.cond co c d) (.cond l x y):=by
 intro C hC n w0 h0 s s' ex a w h hd Q hF he r hQ
 have hc:=eE r.frame hl
 simp only [aR] at he
 split at he
 ·rename_i hb
  rw [hb] at hc
  exact wp_cond_true (mZ hc) (h1 C hC n w0 h0 s s' ex a w h hd Q hF he r hQ)
 ·rename_i hb
  rw [hb] at hc
  exact Ş (mZ hc) (h2 C hC n w0 h0 s s' ex a w h hd Q hF he r hQ)
 ·cases he
end
def aA5 (x ps id id2:Nat) (slots slots2:List Nat) (s:St):Option St:=match s.blk id2,s.blk id with
 | none,some (.outer cs)=>some ⟨(ps,s.get x) :: slots.zip cs,(id2,some (.outer (slots2.map s.get))) :: s.bl⟩
 | _,_=>none
def VN (dC dD id2:Nat) (slots2:List Nat) (s:St):Option St:=match s.blk id2 with
 | some (.outer cs)=>some ⟨(dD,.d (.bool false)) :: (dC,.d (.bool true)) :: slots2.zip cs,(id2,none) :: s.bl⟩
 | _=>none
structure YOk (y ntR id:Nat) (slots:List Nat) (ps:Nat) (asg body:Code) (w0:c8) (h0:Hp):Prop where
 ex:∃ (l:Nat) (rec:Loop),(∀ t,w0.F t = if t = y then some (.func (.yield l) #[] #[]) else none) ∧ w0.heap[l]? = some (.loop rec) ∧ ¬ w0.own l ∧ h0 l = none ∧ rec.state = .ready ∧ rec.pending = none ∧ rec.params = #[ps] ∧ rec.assign = asg ∧ rec.body = body ∧ rec.tmps.size = ntR ∧ ∀ j,j < slots.length->w0.O id j = rec.tmps.getD (slots.getD j 0) undef
def calm:List Nat->aH->Bool
 | ids,.exit id=>ids.contains id
 | _,.ret=>false
 | ids,.seq a b=>calm ids a && calm ids b
 | ids,.cond _ a b=>calm ids a && calm ids b
 | ids,.block id a=>calm (id :: ids) a
 | ids,.loop a=>calm ids a
 | ids,.pre _ a=>calm ids a
 | ids,.post a _=>calm ids a
 | _,_=>true
theorem aNM {C:Nat->List D->Option D} {n:Nat}:∀ (c:aH) (ids:List Nat) (s s' : St) (ex:Ex),calm ids c = true->aR C n c s = some (ex,s')->ex = .normal ∨ ∃ id ∈ ids,ex = .exit id:=by
 intro c
 induction c with
 | skip=>intro ids s s' ex hc he; simp only [aR] at he; cases he; exact .inl rfl
 | ret=>intro ids s s' ex hc he; cases hc
 | exit id=>intro ids s s' ex hc he; simp only [aR] at he; cases he; exact .inr ⟨id,by simpa [calm] using hc,rfl⟩
 | region ops d =>
  intro ids s s' ex hc he
  simp only [aR] at he
  split at he
  ·cases he; exact .inl rfl
  ·cases he
 | hand g =>
  intro ids s s' ex hc he
  simp only [aR] at he
  split at he
  ·cases he; exact .inl rfl
  ·cases he
 | seq a b iha ihb =>
  intro ids s s' ex hc he
  simp only [calm,Ø] at hc
  simp only [aR] at he
  split at he
  ·exact ihb ids _ _ _ hc.2 he
  ·exact iha ids _ _ _ hc.1 he
 | cond q a b iha ihb =>
  intro ids s s' ex hc he
  simp only [calm,Ø] at hc
  simp only [aR] at he
  split at he
  ·exact iha ids _ _ _ hc.1 he
  ·exact ihb ids _ _ _ hc.2 he
  ·cases he
 | block id a ih =>
  intro ids s s' ex hc he
  simp only [calm] at hc
  simp only [aR] at he
  split at he
  ·rename_i id' s1 he1
   split at he
   ·cases he; exact .inl rfl
   ·rename_i hne
    cases he
    rcases ih _ _ _ _ hc he1 with q | ⟨i,hi,q⟩
    ·cases q
    ·cases q
     rcases Ô.1 hi with q | q
     ·exact absurd q hne
     ·exact .inr ⟨_,q,rfl⟩
  ·rename_i hne
   rcases ih _ _ _ _ hc he with q | ⟨i,hi,q⟩
   ·exact .inl q
   ·exact absurd (q ▸ he) (hne _ _)
 | loop a ih =>
  intro ids s s' ex hc he
  simp only [calm] at hc
  simp only [aR] at he
  have key:∀ k s,w7 (aR C n a) k s = some (ex,s')->ex = .normal ∨ ∃ id ∈ ids,ex = .exit id:=by
   intro k
   induction k with
   | zero=>intro s q; cases q
   | succ k ihk =>
    intro s q
    simp only [w7] at q
    split at q
    ·exact ihk _ q
    ·exact ih ids _ _ _ hc q
  exact key n s he
 | pre m a ih=>intro ids s s' ex hc he; exact ih ids _ _ _ hc he
 | post a m ih =>
  intro ids s s' ex hc he
  simp only [aR] at he
  split at he
  ·cases he; exact .inl rfl
  ·exact ih ids _ _ _ hc he
 | inl ops args dst f body res id slots ih =>
  intro ids s s' ex hc he
  simp only [aR] at he
  split at he
  ·cases he
  ·split at he
   ·cases he
   ·split at he
    ·obtain ⟨_,_,q⟩:=Â.1 he; cases q; exact .inl rfl
    ·obtain ⟨_,_,q⟩:=Â.1 he; cases q; exact .inl rfl
    ·cases he
 | inlv ops x nc args dst f body res id slots ih =>
  intro ids s s' ex hc he
  simp only [aR] at he
  split at he
  ·cases he
  ·split at he
   ·cases he
   ·split at he
    ·cases he
    ·split at he
     ·obtain ⟨_,_,q⟩:=Â.1 he; cases q; exact .inl rfl
     ·obtain ⟨_,_,q⟩:=Â.1 he; cases q; exact .inl rfl
     ·cases he
theorem aHs {C:Nat->List D->Option D} {n:Nat} {c:aH} {s s' : St} {ex:Ex} (hc:calm [] c = true) (he:aR C n c s = some (ex,s')):ex = .normal:=by
 rcases aNM c [] s s' ex hc he with q | ⟨_,q,_⟩
 ·exact q
 ·cases q
theorem U5 {C:Nat->List D->Option D} {n:Nat} {c d:aH} {s s' : St} {ex:Ex} (hc:calm [] c = true) (he:aR C n (.seq c d) s = some (ex,s')):∃ s1,aR C n c s = some (.normal,s1) ∧ aR C n d s1 = some (ex,s'):=by
 simp only [aR] at he
 cases h1:aR C n c s with
 | none=>rw [h1] at he; cases he
 | some q =>
  obtain ⟨e1,s1⟩:=q
  have:=aHs hc h1
  subst this
  rw [h1] at he
  exact ⟨s1,rfl,he⟩
abbrev aLf (o:Oper) (op:Op) (d:Option Nat):Prop:=o.guard = none ∧ o.op = op ∧ o.dst = d
section
variable {P:Program} {a:Act} {w w' : World}
theorem aLF {ro:Option Nat} {ops:Array Oper} {Q:Exit->Act->World->Prop} {i d:Nat} {rest:List Nat} {o:Oper} {cv:Value} (ho:ops[i]? = some o) (hg:o.guard = none) (hdst:o.dst = some d) (hnd:∀ c,o.op ≠ .defer c) {s:Sem Value} (he:execOp a.eval o = (do pure (.value (← s)))) (hr:s.run P w = .ok cv w')
  (hK:wpOpsIn (WR ro) 0 P ops Q rest (a.put (some d) cv) w'):wpOpsIn (WR ro) 0 P ops Q (i :: rest) a w:=by
 simp only [wpOpsIn,ho]
 rw [Á (by simp [Region.wanted,hg])]
 exact aRQ hnd (nD he hr (by rw [hdst]; exact hK))
theorem aPo {ro:Option Nat} {ops:Array Oper} {Q:Exit->Act->World->Prop} {i:Nat} {rest:List Nat} {o:Oper} (ho:ops[i]? = some o) (hg:o.guard = none) (h:o.wpIn (WR ro) 0 P a w (fun a' w'=>wpOpsIn (WR ro) 0 P ops Q rest a' w') Q):wpOpsIn (WR ro) 0 P ops Q (i :: rest) a w:=by
 simp only [wpOpsIn,ho]
 rw [Á (by simp [Region.wanted,hg])]
 exact h
end
section
variable {P:Program}
theorem aRG (hm:P.follows .mixedOrders = true) {nt ntR y id id2 x ps rid tA tB tC tD:Nat} {slots slots2:List Nat} {asg body:Code} {asgS bodyS:aH} {o1 o2 o3 o4:Oper} {cl:Call} (ha:sM P ntR asg = some asgS.bare) (hb:sM P ntR body = some bodyS.bare) (hca:calm [] asgS = true) (hcb:calm [] bodyS = true) (hna:PR asg = true) (hnb:PR body = true)
  (h1:aLf o1 (.move (.tmp y)) (some tA)) (h2:aLf o2 (.move (.tmp x)) (some tB)) (h3:aLf o3 (.call cl) (some tC)) (hc1:cl.callee = .value (.tmp tA)) (hc2:cl.args = #[.tmp tB]) (h4:o4.guard = none ∧ o4.dst = some tD ∧ ∃ ty,o4.op = .unOp .not ty (.tmp tC))
  (hlt:tA < nt ∧ tB < nt ∧ tC < nt ∧ tD < nt) (hy:y ≠ tA ∧ y ≠ tB ∧ y ≠ tC ∧ y ≠ tD) (hx:x ≠ tA) (hAB:tA ≠ tB) (hps:ps < ntR) (hs2:∀ t ∈ slots2,t ≠ tA ∧ t ≠ tB) :
  bW (YOk y ntR id slots ps asg body) P nt (.region rid #[o1,o2,o3,o4] false) (.seq (.hand (aA5 x ps id id2 slots slots2)) (.seq asgS (.seq bodyS (.hand (VN tC tD id2 slots2))))):=by
 intro C hC n w0 h0 s s' ex a w h hd Q hI he r hQ
 obtain ⟨⟨l,rec,hFy,hl0,hnl,hh0,hst,hpe,hpa,has,hbo,hsz,hO⟩⟩:=hI
 subst has hbo
 -- what the machine does
 obtain ⟨s1,e1,he⟩:=U5 rfl he
 obtain ⟨sA,eA,he⟩:=U5 hca he
 obtain ⟨sB,eB,he⟩:=U5 hcb he
 have e1' : aA5 x ps id id2 slots slots2 s = some s1:=by
  simp only [aR] at e1
  split at e1
  ·rename_i q; cases e1; exact q
  ·cases e1
 have e2' : VN tC tD id2 slots2 sB = some s' ∧ ex = .normal:=by
  simp only [aR] at he
  split at he
  ·rename_i q; cases he; exact ⟨q,rfl⟩
  ·cases he
 obtain ⟨e2',rfl⟩:=e2'
 clear e1 he
 obtain ⟨cs,hn2,hcs,rfl⟩ : ∃ cs,s.blk id2 = none ∧ s.blk id = some (.outer cs) ∧ s1 = ⟨(ps,s.get x) :: slots.zip cs,(id2,some (.outer (slots2.map s.get))) :: s.bl⟩:=by
  unfold aA5 at e1'
  split at e1'
  ·rename_i cs q1 q2; cases e1'; exact ⟨cs,q1,q2,rfl⟩
  ·cases e1'
 obtain ⟨cs2,hcs2,rfl⟩ : ∃ cs2,sB.blk id2 = some (.outer cs2) ∧ s' = ⟨(tD,.d (.bool false)) :: (tC,.d (.bool true)) :: slots2.zip cs2,(id2,none) :: sB.bl⟩:=by
  unfold VN at e2'
  split at e2'
  ·rename_i cs2 q1; cases e2'; exact ⟨cs2,q1,rfl⟩
  ·cases e2'
 have hne:id ≠ id2:=fun e=>by rw [e,hn2] at hcs; cases hcs
 have hyv:a.tmps.getD y undef = .func (.yield l) #[] #[]:=r.fixed y _ (by rw [hFy,Á rfl])
 have hrl:w.heap[l]? = some (.loop rec):=(r.below.block l hnl).trans hl0
 have hhl:h l = none:=(r.hbase l hnl).trans hh0
 have hsz2:a.tmps.size = nt:=r.tmps
 have hxr:=r.frame x
 generalize hvx:a.tmps.getD x undef = vx at hxr
 have gput:∀ (a:Act) (hs:a.tmps.size = nt) (d:Nat) (hd:d < nt) (v:Value) (t:Nat),(a.put (some d) v).tmps.getD t undef = if t = d then v else a.tmps.getD t undef:=fun a hs d hd v t=>by
  rw [P9 a (some d) v t nt hs fun _ e=>by cases e; exact hd]
  simp only [Å]
  by_cases e:t = d
  ·rw [Á e,Á e.symm]
  ·rw [Ã e,Ã (ĺ e)]
 have sput:∀ (a:Act) (d:Nat) (v:Value),a.tmps.size = nt->(a.put (some d) v).tmps.size = nt:=fun a d v hs=>by simp [Act.put,hs]
 refine (wpIn_wide (n:=0)).1 (show Code.wpIn (WR none) 0 P _ Q a w from wpIn_region ?_)
 rw [show List.range (#[o1,o2,o3,o4]:Array Oper).size = [0,1,2,3] from rfl]
 refine aLF (o:=o1) rfl h1.1 h1.2.2 (fun c e=>by rw [h1.2.1] at e; cases e) (s:=pure (a.eval (.tmp y))) (by simp [execOp,h1.2.1]) (cv:=.func (.yield l) #[] #[]) (by rw [show a.eval (.tmp y) = _ from hyv]; rfl) ?_
 refine aLF (o:=o2) rfl h2.1 h2.2.2 (fun c e=>by rw [h2.2.1] at e; cases e) (s:=pure ((a.put (some tA) (.func (.yield l) #[] #[])).eval (.tmp x))) (by simp [execOp,h2.2.1]) (cv:=vx) (by rw [show (a.put (some tA) (.func (.yield l) #[] #[])).eval (.tmp x) = vx from ((gput a hsz2 tA hlt.1 _ x).trans (Ã hx)).trans hvx]; rfl) ?_
 generalize ha3:(a.put (some tA) (.func (.yield l) #[] #[])).put (some tB) (vx) = a3
 have hs3:a3.tmps.size = nt:=by rw [← ha3]; exact sput _ _ _ (sput _ _ _ hsz2)
 have g3:∀ t,a3.tmps.getD t undef = if t = tB then vx else if t = tA then .func (.yield l) #[] #[] else a.tmps.getD t undef:=fun t=>by
  rw [← ha3,gput _ (sput _ _ _ hsz2) tB hlt.2.1,gput _ hsz2 tA hlt.1]
 have hd3:a3.defers = a.defers:=by rw [← ha3]; rfl
 have htm:((rec.params.zip #[vx]).foldl (fun tmps (t,v)=>tmps.setIfInBounds t v) rec.tmps) = rec.tmps.setIfInBounds ps vx:=by
  rw [hpa]; simp
 have hex:(execOp a3.eval o3).run P w = .ok (.round l rec.fn ((rec.params.zip #[vx]).foldl (fun tmps (t,v)=>tmps.setIfInBounds t v) rec.tmps) rec.assign rec.body) w:=by
  have hy1:=run_yield (P:=P) (args:=#[vx]) hrl (by rw [hpa]; rfl)
  have eA:a3.eval (.tmp tA) = .func (.yield l) #[] #[]:=(g3 tA).trans (by rw [Ã hAB,Á rfl])
  have eB:a3.eval (.tmp tB) = vx:=(g3 tB).trans (Á rfl)
  rw [htm] at hy1 ⊢
  simp [execOp,h3.2.1,resolve,hc1,hc2,eA,eB,Deferred.ofValue,invoke,callFunc,hy1]
 refine aPo (o:=o3) rfl h3.1 ?_
 refine ⟨fun _ _=>trivial,?_⟩
 rw [show o3.semAt (WR none).round a3.eval = execOp a3.eval o3 from rfl,hex,Oper.uponIn_round]
 refine ⟨fun q=>(by cases q),roundIn_of_wpIn trivial ?_⟩
 -- the round's frame
 rw [htm]
 have gR:∀ t,(rec.tmps.setIfInBounds ps (vx)).getD t undef = if t = ps then vx else rec.tmps.getD t undef:=fun t=>by
  simp only [Ì,Array.getElem?_setIfInBounds]
  by_cases e:ps = t
  ·subst e
   rw [Á rfl,Á (by omega),Á rfl]; rfl
  ·rw [Ã e,Ã (ĺ e)]
 let O2:Nat->Nat->Value:=fun i j=>if i = id2 then a3.tmps.getD (slots2.getD j 0) undef else w0.O i j
 have hbl:∀ i,(⟨(ps,s.get x) :: slots.zip cs,(id2,some (.outer (slots2.map s.get))) :: s.bl⟩ : St).blk i = if i = id2 then some (.outer (slots2.map s.get)) else s.blk i:=fun i=>rfl
 have hkp:Kp hd hd s.blk (⟨(ps,s.get x) :: slots.zip cs,(id2,some (.outer (slots2.map s.get))) :: s.bl⟩ : St).blk:=by
  intro i b hb
  have:i ≠ id2:=fun e=>by rw [e,hn2] at hb; cases hb
  exact ⟨b,by rw [hbl,Ã this]; exact hb,DD.refl _ _ _⟩
 have ro:=r.blk id _ hcs
 have r1:Rl ntR (w0.re w (fun _=>False) (fun _=>none) O2 []) h (⟨(ps,s.get x) :: slots.zip cs,(id2,some (.outer (slots2.map s.get))) :: s.bl⟩ : St).get (⟨(ps,s.get x) :: slots.zip cs,(id2,some (.outer (slots2.map s.get))) :: s.bl⟩ : St).blk { tmps:=rec.tmps.setIfInBounds ps (vx),defers:=[] } w h hd:={
  tmps:=by simp [hsz]
  defers:=rfl
  fixed:=fun t v e=>by cases e
  below:=GE.refl _ _
  hle:=r.hle
  h0le:=Hp.le.refl _
  hbase:=fun _ _=>rfl
  frame:=fun t=>by
   show R3 h hd _ ((rec.tmps.setIfInBounds ps (vx)).getD t undef) (lk ((ps,s.get x) :: slots.zip cs) .any t)
   rw [gR]
   simp only [lk]
   by_cases e:t = ps
   ·rw [Á e,Á e]; exact hxr.keep (Hp.le.refl _) hkp
   ·rw [Ã e,Ã e]
    rcases E8 (slots.zip cs) .any t with q | ⟨p,hp,q1,q2⟩
    ·rw [q]; trivial
    ·obtain ⟨j,hj⟩:=î.1 hp
     rw [ģ] at hj
     have h3:=ro j p.2 hj.2
     have hjl:=(Æ.1 hj.1).1
     rw [hO j hjl,Ý,hj.1] at h3
     rw [← q2,← q1]
     exact h3.keep (Hp.le.refl _) hkp
  blk:=fun i b hb=>by
   rw [hbl] at hb
   split at hb
   ·rename_i e
    subst e
    cases hb
    intro j z hz
    rw [Ç,Â] at hz
    obtain ⟨t,ht,rfl⟩:=hz
    have hn:=hs2 t (Î ht)
    have:O2 i j = a.tmps.getD t undef:=by
     show (if i = i then a3.tmps.getD (slots2.getD j 0) undef else w0.O i j) = _
     rw [Á rfl,Ý,ht]
     exact (g3 t).trans (by rw [Ã hn.2,Ã hn.1])
    show R3 h hd _ (O2 i j) _
    rw [this]
    exact (r.frame t).keep (Hp.le.refl _) hkp
   ·rename_i e
    have rb:=(r.blk i b hb).keep (w':=w) (h':=h) (hd':=hd) (bl':=(⟨(ps,s.get x) :: slots.zip cs,(id2,some (.outer (slots2.map s.get))) :: s.bl⟩ : St).blk) (Hp.le.refl _) hkp rfl fun _ _ _=>⟨rfl,fun q=>q⟩
    refine BR.base (b0:=w0.re w (fun _=>False) (fun _=>none) O2 []) (b1:=w0) (fun g q=>aBm q fun z=>z) ?_ rb
    exact .inr (by funext j; exact Ã e)
  sep:=fun i j bi bj g hi hj li lj gi gj=>by
   rw [hbl] at hi hj
   split at hi
   ·cases hi; cases li
   ·split at hj
    ·cases hj; cases lj
    ·exact r.sep i j bi bj g hi hj li lj gi gj }
 have hs0:w0.heap.size <= w.heap.size:=r.below.size
 have hnl1:¬ (w0.re w (fun _=>False) (fun _=>none) O2 []).own l:=fun q=>hnl (zY hs0 q)
 refine aDT hC hm n asgS rec.assign _ sA .normal _ w h hd _ (B2.none (fun _=>rfl) _) hna ha eA r1 fun aA wA hA hdA rA=>?_
 have hlA:wA.heap[l]? = some (.loop rec):=(rA.below.block l hnl1).trans hrl
 have hhA:hA l = none:=(rA.hbase l hnl1).trans hhl
 refine ⟨wA.putObj l (.loop { rec with state:=.busy }),run_beginRound hlA hst,?_⟩
 have rB:=rA.re (w2:=wA.putObj l (.loop { rec with state:=.busy })) (row:=some l) (X:=fun g=>g = l) (F:=fun _=>none) (O:=O2) (M:=[]) (grownBy_putObj' wA l _) (fun g e=>by cases e; exact ⟨hhA,rfl⟩)
  (fun g e i b hb hl q=>by subst e; exact hnl1 ((rA.blk i b hb).num hl q).1) (fun i c hi=>rfl) (fun t v e=>by cases e) rA.defers
 have hs1:(w0.re w (fun _=>False) (fun _=>none) O2 []).heap.size <= (wA.putObj l (.loop { rec with state:=.busy })).heap.size:=by rw [World.putObj_size]; exact rA.below.size
 have hnl2:¬ ((w0.re w (fun _=>False) (fun _=>none) O2 []).re (wA.putObj l (.loop { rec with state:=.busy })) (fun g=>g = l) (fun _=>none) O2 []).own l:=fun q=>hnl1 (zY hs1 q)
 refine aDT hC hm n bodyS rec.body sA sB .normal aA _ hA hdA _ (B2.none (fun _=>rfl) _) hnb hb eB rB fun aB wB hB hdB rB'=>?_
 have hltl:l < wA.heap.size:=(Ï.1 hlA).1
 have hlB:wB.heap[l]? = some (.loop { rec with state:=.busy }):=(rB'.below.block l hnl2).trans (World.putObj_heap_same hltl)
 have hend:=run_endRound (P:=P) none hlB
 have hrec:({ { rec with state:=.busy } with state:=(if (none:Option Code).isNone = true then .ready else .done),pending:=none }:Loop) = rec:=by
  cases rec; simp at hst hpe; subst hst hpe; rfl
 rw [hrec] at hend
 refine ⟨_,_,hend,?_⟩
 show wpOpsIn (WR none) 0 P _ Q [3] (a3.put o3.dst (.bool true)) (wB.putObj l (.loop rec))
 rw [h3.2.2]
 obtain ⟨g1,g2,ty,g4⟩:=h4
 have eC:(a3.put (some tC) (.bool true)).eval (.tmp tC) = .bool true:=(gput a3 hs3 tC hlt.2.2.1 _ tC).trans (Á rfl)
 refine aLF (o:=o4) rfl g1 g2 (fun c e=>by rw [g4] at e; cases e) (s:=Op.unary .not ((a3.put (some tC) (.bool true)).eval (.tmp tC))) (by simp [execOp,g4]) (cv:=.bool false) (w':=wB.putObj l (.loop rec)) (by rw [eC]; rfl) ?_
 show Q .normal _ _
 have hs4:=sput a3 tC (.bool true) hs3
 have g5:∀ t,((a3.put (some tC) (.bool true)).put (some tD) (.bool false)).tmps.getD t undef = if t = tD then .bool false else if t = tC then .bool true else a3.tmps.getD t undef:=fun t=>by
  rw [gput _ hs4 tD hlt.2.2.2,gput _ hs3 tC hlt.2.2.1]
 have hltB:l < wB.heap.size:=(Ï.1 hlB).1
 have hB0:=rB'.blk id2 _ hcs2
 have hne2:∀ i,i ≠ id2->(⟨(tD,.d (.bool false)) :: (tC,.d (.bool true)) :: slots2.zip cs2,(id2,none) :: sB.bl⟩ : St).blk i = sB.blk i:=fun i e=>Ã e
 have hhB:hB l = none:=(rB'.hbase l hnl2).trans hhA
 have hblk:∀ k,k ≠ l->(wB.putObj l (.loop rec)).heap[k]? = wB.heap[k]?:=fun k e=>World.putObj_heap_other e
 refine hQ _ _ hB hdB {
  tmps:=sput _ _ _ hs4
  defers:=by
   show a3.defers = w0.M
   rw [hd3]; exact r.defers
  fixed:=fun t v e=>by
   rw [hFy] at e
   split at e
   ·rename_i q
    cases e
    rw [g5,Ã (by rw [q]; exact hy.2.2.2),Ã (by rw [q]; exact hy.2.2.1),g3,Ã (by rw [q]; exact hy.2.1),Ã (by rw [q]; exact hy.1),q]
    exact hyv
   ·cases e
  below:=by
   refine r.below.trans ⟨rB'.below.os.trans rA.below.os,rB'.below.tape.trans rA.below.tape,rB'.below.output.trans rA.below.output,?_,fun k hk=>?_⟩
   ·rw [World.putObj_size]
    have:=rB'.below.size
    have h2:=rA.below.size
    exact ñ h2 (by rw [show ((w0.re w (fun _=>False) (fun _=>none) O2 []).re (wA.putObj l (.loop { rec with state:=.busy })) (fun g=>g = l) (fun _=>none) O2 []).toWorld = wA.putObj l (.loop { rec with state:=.busy }) from rfl,World.putObj_size] at this; exact this)
   ·by_cases e:k = l
    ·subst e
     rw [World.putObj_heap_same hltB]; exact hrl.symm
    ·rw [hblk k e]
     have q1:¬ (w0.re w (fun _=>False) (fun _=>none) O2 []).own k:=fun q=>hk (zY hs0 q)
     have q2:=rB'.below.block k fun q=>q1 (zY hs1 q)
     exact q2.trans ((World.putObj_heap_other e).trans (rA.below.block k q1))
  hle:=fun b o e=>by
   have:b ≠ l:=fun q=>by rw [q,hhB] at e; cases e
   exact (hblk b this).trans (rB'.hle b o e)
  h0le:=r.h0le.trans (rA.h0le.trans rB'.h0le)
  hbase:=fun b hb=>by
   have q1:¬ (w0.re w (fun _=>False) (fun _=>none) O2 []).own b:=fun q=>hb (zY hs0 q)
   exact (rB'.hbase b fun q=>q1 (zY hs1 q)).trans ((rA.hbase b q1).trans (r.hbase b hb))
  frame:=fun t=>by
   rw [g5]
   refine R3.drop hcs2 hne2 ?_
   show R3 hB hdB sB.blk _ (lk ((tD,.d (.bool false)) :: (tC,.d (.bool true)) :: slots2.zip cs2) .any t)
   simp only [lk]
   by_cases e:t = tD
   ·rw [Á e,Á e]; exact ⟨rfl,.bool _⟩
   ·rw [Ã e,Ã e]
    by_cases e' : t = tC
    ·rw [Á e',Á e']; exact ⟨rfl,.bool _⟩
    ·rw [Ã e',Ã e']
     rcases E8 (slots2.zip cs2) .any t with q | ⟨p,hp,q1,q2⟩
     ·rw [q]; trivial
     ·obtain ⟨j,hj⟩:=î.1 hp
      rw [ģ] at hj
      have h3:=hB0 j p.2 hj.2
      have:((w0.re w (fun _=>False) (fun _=>none) O2 []).re (wA.putObj l (.loop { rec with state:=.busy })) (fun g=>g = l) (fun _=>none) O2 []).O id2 j = a3.tmps.getD t undef:=by
       show (if id2 = id2 then a3.tmps.getD (slots2.getD j 0) undef else w0.O id2 j) = _
       rw [Á rfl,Ý,hj.1,← q1]
       rfl
      rw [this] at h3
      rw [← q2]
      exact h3
  blk:=fun i b hb=>by
   have e:i ≠ id2:=fun e=>by
    rw [e] at hb
    have:(⟨(tD,V.d (.bool false)) :: (tC,.d (.bool true)) :: slots2.zip cs2,(id2,none) :: sB.bl⟩ : St).blk id2 = none:=by
     show lk ((id2,none) :: sB.bl) none id2 = none
     simp [lk]
    rw [this] at hb; cases hb
   rw [hne2 i e] at hb
   have rb:=(rB'.blk i b hb).keep (w':=wB.putObj l (.loop rec)) (h':=hB) (hd':=hdB) (bl':=sB.blk) (Hp.le.refl _) (Kp.refl _ _) rfl fun hl g hg=>⟨hblk g fun q=>hnl2 (q ▸ ((rB'.blk i b hb).num hl hg).1),fun q=>q⟩
   refine BR.drop (b0:=w0) (b1:=(w0.re w (fun _=>False) (fun _=>none) O2 []).re (wA.putObj l (.loop { rec with state:=.busy })) (fun g=>g = l) (fun _=>none) O2 []) (fun g q=>zY hs0 (zY hs1 q)) ?_ hcs2 hne2 rb
   funext j
   exact (Ã e).symm
  sep:=fun i j bi bj g hi hj li lj gi gj=>by
   have ei:i ≠ id2:=fun e=>by
    have:(⟨(tD,V.d (.bool false)) :: (tC,.d (.bool true)) :: slots2.zip cs2,(id2,none) :: sB.bl⟩ : St).blk id2 = none:=by
     show lk ((id2,none) :: sB.bl) none id2 = none
     simp [lk]
    rw [e,this] at hi; cases hi
   have ej:j ≠ id2:=fun e=>by
    have:(⟨(tD,V.d (.bool false)) :: (tC,.d (.bool true)) :: slots2.zip cs2,(id2,none) :: sB.bl⟩ : St).blk id2 = none:=by
     show lk ((id2,none) :: sB.bl) none id2 = none
     simp [lk]
    rw [e,this] at hj; cases hj
   rw [hne2 i ei] at hi
   rw [hne2 j ej] at hj
   exact rB'.sep i j bi bj g hi hj li lj gi gj }
end
end Vm
end
section
namespace Vm
open Go.RowKit
section
variable {P:Program}
theorem aQP {nt f nc ps id:Nat} {x:d7} {slots:List Nat} {gop:Operand} {asg body:Code} {iterS:aH} {fn:Func} {c' : Code} (hx:qM gop = some x) (hfn:P.funcs[f]? = some fn) (l2:fn.name ≠ "runtime.NumGoroutine") (l6:fn.body = some c') (l3:1 + nc <= fn.ntmps) (l5:fn.results = #[])
  (hbody:bW (YOk 0 nt id slots ps asg body) P fn.ntmps c' iterS):kL P nt (.rangeFunc gop #[ps] asg body) (.inlv [] x nc [.c .any] none f iterS [] id slots):=by
 intro C hC n w0 h0 s s' ex a w h hd Q hF he r hQ
 simp only [aR,lA] at he
 split at he
 ·cases he
 rename_i caps hcaps
 split at he
 ·cases he
 rename_i s2 hs2
 have hfin:∃ ex' s3,aR C n iterS s2 = some (ex',s3) ∧ pS none [] id slots s3 = some s' ∧ ex = .normal ∧ (ex' = .normal ∨ ex' = .ret):=by
  split at he
  ·rename_i s3 h3
   obtain ⟨s4,q1,q2⟩:=Â.1 he
   cases q2
   exact ⟨_,s3,h3,q1,rfl,.inl rfl⟩
  ·rename_i s3 h3
   obtain ⟨s4,q1,q2⟩:=Â.1 he
   cases q2
   exact ⟨_,s3,h3,q1,rfl,.inr rfl⟩
  ·cases he
 obtain ⟨ex',s3,hev,hout,rfl,hex⟩:=hfin
 have hcv:cZ s.get x = .fn f caps ∧ caps.length = nc:=by
  unfold L8 at hcaps
  split at hcaps
  ·rename_i g cs hg
   split at hcaps
   ·rename_i q
    cases hcaps
    obtain ⟨rfl,q2⟩:=q
    exact ⟨hg,q2⟩
   ·cases hcaps
  ·cases hcaps
 have hfv:=eE r.frame hx
 rw [hcv.1] at hfv
 obtain ⟨arr,hge,hgs,hgr⟩ : ∃ arr:Array Value,a.eval gop = .func (.func f) #[] arr ∧ arr.size = caps.length ∧ ∀ j x,caps[j]? = some x->RC hd s.blk (arr.getD j undef) x:=hfv
 have hs2' : s.blk id = none ∧ s2 = ⟨sV 0 (.any :: caps),(id,some (.outer (slots.map s.get))) :: s.bl⟩:=by
  unfold JD at hs2
  split at hs2
  ·rename_i q
   cases hs2
   exact ⟨by simpa using q,rfl⟩
  ·cases hs2
 obtain ⟨hnone,rfl⟩:=hs2'
 obtain ⟨cs3,hcs3,rfl⟩ : ∃ cs,s3.blk id = some (.outer cs) ∧ s' = ⟨slots.zip cs,(id,none) :: s3.bl⟩:=by
  unfold pS at hout
  split at hout
  ·rename_i cs v q1 q2; cases q2
  ·rename_i cs vs hne q1 q2
   cases q2
   split at hout
   ·cases hout; exact ⟨cs,q1,rfl⟩
   ·cases hout
  ·cases hout
 clear hout he hs2
 refine (wpIn_wide (n:=0)).1 (wpIn_rangeFunc ?_)
 intro fn0 _
 obtain ⟨rec,hrec⟩ : ∃ rec:Loop,rec = { state:=.ready,pending:=none,fn:=fn0,tmps:=a.tmps,params:=#[ps],assign:=asg,body:=body,defers:=w.heap.size }:=⟨_,rfl⟩
 obtain ⟨l,hl⟩ : ∃ l,l = w.heap.size + 1:=⟨_,rfl⟩
 obtain ⟨W1,hW1⟩ : ∃ W1,(w.alloc (.deferred (some []))).alloc (.loop rec) = W1:=⟨_,rfl⟩
 have hsz1:W1.heap.size = w.heap.size + 2:=by rw [← hW1,ĭ,ĭ]
 have hL1:W1.heap[l]? = some (.loop rec):=by
  rw [← hW1,hl]; have:=World.alloc_heap_new (w.alloc (.deferred (some []))) (.loop rec); rwa [ĭ] at this
 have hK1:W1.heap[w.heap.size]? = some (.deferred (some [])):=by
  rw [← hW1]; exact (Below.heap_alloc _ _ _ (by simp)).trans (World.alloc_heap_new w _)
 have hold:∀ k,k < w.heap.size->W1.heap[k]? = w.heap[k]?:=fun k hk=>by
  rw [← hW1]; exact (Below.heap_alloc _ _ _ (by rw [ĭ]; omega)).trans (Below.heap_alloc _ _ _ hk)
 have hg1:w.grownBy W1 none:=by
  rw [← hW1]
  exact ⟨rfl,rfl,rfl,by rw [ĭ,ĭ]; omega,fun k hk _=>by rw [hW1]; exact hold k hk⟩
 refine ⟨l,[aBV w.heap.size],W1,{ target:=.fn (.func f) arr,args:=#[.func (.yield l) #[] #[]] },W1,f,#[.func (.yield l) #[] #[]] ++ arr,W1,?_,?_,fun _ _=>trivial,?_,fun q=>(by cases q),?_⟩
 ·rw [← hW1,hrec,hl]; exact run_enterLoop_outer _ _ _ _ _
 ·simp only [resolve,hge]
  simp [go_sem]
 ·simp [invoke,callFunc,hfn,l2,l6]
 refine callsIn_wide.2 (calls_of_wp hfn l6 ?_)
 have hsa:(#[Value.func (.yield l) #[] #[]] ++ arr).size = nc + 1:=by
  rw [ň,hgs,hcv.2]; simp [ŉ]
 have hget:∀ i,i < nc + 1->((#[Value.func (.yield l) #[] #[]] ++ arr) ++ Array.replicate (fn.ntmps - (#[Value.func (.yield l) #[] #[]] ++ arr).size) undef).getD i undef = (#[Value.func (.yield l) #[] #[]] ++ arr).getD i undef:=fun i hi=>by
  simp only [Ì]
  rw [ċ (by rw [hsa]; exact hi)]
 generalize hvs:(#[Value.func (.yield l) #[] #[]] ++ arr) ++ Array.replicate (fn.ntmps - (#[Value.func (.yield l) #[] #[]] ++ arr).size) undef = tm at hget ⊢
 have hts:tm.size = fn.ntmps:=by rw [← hvs,ň,hsa,Array.size_replicate]; omega
 have ht0:tm.getD 0 undef = .func (.yield l) #[] #[]:=by
  rw [hget 0 (by omega)]
  simp only [Ì]
  rw [ċ (by simp)]
  rfl
 have htS:∀ j,j < nc->tm.getD (j + 1) undef = arr.getD j undef:=fun j hj=>by
  rw [hget (j + 1) (by omega)]
  simp only [Ì]
  rw [Ŗ (by simp)]
  simp
 let X1:Nat->Prop:=fun g=>w.heap.size <= g
 let O1:Nat->Nat->Value:=fun i j=>if i = id then a.tmps.getD (slots.getD j 0) undef else w0.O i j
 let F1:Nat->Option Value:=fun t=>if t = 0 then some (.func (.yield l) #[] #[]) else none
 have hll:l < W1.heap.size:=by omega
 have hhn:∀ g,w.heap.size <= g->h g = none:=fun g hg=>by
  cases e:h g with
  | none=>rfl
  | some o=>exact absurd (Ï.1 (r.hle g o e)).1 (by omega)
 have rre:=r.re (w2:=W1) (row:=none) (X:=X1) (F:=fun _=>none) (O:=O1) (M:=a.defers) hg1 (fun g e=>by cases e)
  (fun g (e:w.heap.size <= g) i b hb hl q=>absurd ((r.blk i b hb).num hl q).2.1 (Nat.not_lt_of_le e))
  (fun i cs hi=>by
   have:i ≠ id:=fun e=>by rw [e,hnone] at hi; cases hi
   funext j; exact Ã this) (fun t v e=>by cases e) rfl
 have hbl:∀ i,(⟨sV 0 (.any :: caps),(id,some (.outer (slots.map s.get))) :: s.bl⟩ : St).blk i = if i = id then some (.outer (slots.map s.get)) else s.blk i:=fun i=>rfl
 have hk:Kp hd hd s.blk (⟨sV 0 (.any :: caps),(id,some (.outer (slots.map s.get))) :: s.bl⟩ : St).blk:=by
  intro i b hb
  have:i ≠ id:=fun e=>by rw [e,hnone] at hb; cases hb
  exact ⟨b,by rw [hbl,Ã this]; exact hb,DD.refl _ _ _⟩
 have r2:Rl fn.ntmps (w0.re W1 X1 F1 O1 []) h (⟨sV 0 (.any :: caps),(id,some (.outer (slots.map s.get))) :: s.bl⟩ : St).get (⟨sV 0 (.any :: caps),(id,some (.outer (slots.map s.get))) :: s.bl⟩ : St).blk { tmps:=tm,defers:=[] } W1 h hd:={
  tmps:=hts
  defers:=rfl
  fixed:=fun t v e=>by
   have e' : (if t = 0 then some (Value.func (.yield l) #[] #[]) else none) = some v:=e
   split at e'
   ·rename_i q; cases e'; rw [q]; exact ht0
   ·cases e'
  below:=GE.refl _ _
  hle:=rre.hle
  h0le:=Hp.le.refl _
  hbase:=fun _ _=>rfl
  frame:=fun t=>by
   have e1:(⟨sV 0 (.any :: caps),(id,some (.outer (slots.map s.get))) :: s.bl⟩ : St).get t = (V.any :: caps).getD t .any:=by
    have:=VM (.any :: caps) 0 t
    simpa [St.get] using this
   rw [e1]
   match t with
   | 0=>trivial
   | j + 1 =>
    cases hy:caps[j]? with
    | none =>
     have:(V.any :: caps).getD (j + 1) .any = .any:=by simp [Ý,hy]
     rw [this]
     trivial
    | some z =>
     have:(V.any :: caps).getD (j + 1) .any = z:=by simp [Ý,hy]
     rw [this]
     have hjl:=(Æ.1 hy).1
     show R3 _ _ _ (tm.getD (j + 1) undef) _
     rw [htS j (by omega)]
     have hrc:=hgr j z hy
     cases z with
     | ptr i off =>
      have:R3 h hd s.blk (arr.getD j undef) (.ptr i off):=hrc
      exact this.keep (Hp.le.refl _) hk
     | _=>exact hrc.elim
  blk:=fun i b hb=>by
   rw [hbl] at hb
   split at hb
   ·rename_i e
    subst e
    cases hb
    intro j x hx
    rw [Ç,Â] at hx
    obtain ⟨t,ht,rfl⟩:=hx
    have:O1 i j = a.tmps.getD t undef:=by
     show (if i = i then a.tmps.getD (slots.getD j 0) undef else w0.O i j) = _
     rw [Á rfl,Ý,ht]
     rfl
    show R3 h hd _ (O1 i j) _
    rw [this]
    exact (r.frame t).keep (Hp.le.refl _) hk
   ·rename_i e
    exact (BR.base (b0:=w0.re W1 X1 F1 O1 []) (b1:=w0.re W1 X1 (fun _=>none) O1 a.defers) (fun g q=>q) (.inr rfl) (rre.blk i b hb)).keep (Hp.le.refl _) hk rfl fun _ _ _=>⟨rfl,fun q=>q⟩
  sep:=fun i j bi bj g hi hj li lj gi gj=>by
   rw [hbl] at hi hj
   split at hi
   ·cases hi; cases li
   ·split at hj
    ·cases hj; cases lj
    ·exact r.sep i j bi bj g hi hj li lj gi gj }
 have hnl:¬ (w0.re W1 X1 F1 O1 []).own l:=aKw (show w.heap.size <= l by omega) hll
 have hnD:¬ (w0.re W1 X1 F1 O1 []).own w.heap.size:=aKw (show w.heap.size <= w.heap.size by omega) (by omega)
 have hs01:w0.heap.size <= W1.heap.size:=by rw [hsz1]; exact ñ r.below.size (by omega)
 refine hbody C hC n (w0.re W1 X1 F1 O1 []) h _ s3 ex' _ W1 h hd _ ⟨l,rec,fun t=>rfl,hL1,hnl,hhn l (by omega),by rw [hrec],by rw [hrec],by rw [hrec],by rw [hrec],by rw [hrec],by rw [hrec]; exact r.tmps,fun j hj=>by rw [hrec]; exact Á rfl⟩ hev r2 fun a' w' h' hd' r'=>?_
 have hlw:w'.heap[l]? = some (.loop rec):=(r'.below.block l hnl).trans hL1
 have hend:=run_endLoop (P:=P) hlw (by rw [hrec]; simp)
 have hpe:rec.pending = none:=by rw [hrec]
 generalize hr4:({ rec with state:=.exhausted }:Loop) = rec4 at hend
 rw [hpe] at hend
 have hh'l:h' l = none:=(r'.hbase l hnl).trans (hhn l (by omega))
 have r4:=r'.re (w2:=w'.putObj l (.loop rec4)) (row:=some l) (X:=fun g=>g = l) (F:=fun _=>none) (O:=O1) (M:=a'.defers) (grownBy_putObj' w' l _) (fun g e=>by cases e; exact ⟨hh'l,rfl⟩)
  (fun g e i b hb hlv q=>by rw [show g = l from e] at q; exact hnl ((r'.blk i b hb).num hlv q).1) (fun i c hi=>rfl) (fun t v e=>by cases e) rfl
 have hs14:(w0.re W1 X1 F1 O1 []).heap.size <= (w'.putObj l (.loop rec4)).heap.size:=by rw [World.putObj_size]; exact r'.below.size
 have hne:∀ i,i ≠ id->(⟨slots.zip cs3,(id,none) :: s3.bl⟩ : St).blk i = s3.blk i:=fun i e=>Ã e
 have hO3:=r'.blk id _ hcs3
 have rB:Rl nt ((w0.re W1 X1 F1 O1 []).re (w'.putObj l (.loop rec4)) (fun g=>g = l) (fun _=>none) w0.O ([aBV w.heap.size] ++ w0.M)) h' (⟨slots.zip cs3,(id,none) :: s3.bl⟩ : St).get (⟨slots.zip cs3,(id,none) :: s3.bl⟩ : St).blk { a with defers:=[aBV w.heap.size] ++ a.defers } (w'.putObj l (.loop rec4)) h' hd':={
  tmps:=r.tmps
  defers:=by
   show [aBV w.heap.size] ++ a.defers = [aBV w.heap.size] ++ w0.M
   rw [r.defers]
  fixed:=fun t v e=>by cases e
  below:=GE.refl _ _
  hle:=r4.hle
  h0le:=Hp.le.refl _
  hbase:=fun _ _=>rfl
  frame:=fun t=>by
   refine R3.drop hcs3 hne ?_
   show R3 h' hd' s3.blk (a.tmps.getD t undef) (lk (slots.zip cs3) .any t)
   rcases E8 (slots.zip cs3) .any t with e | ⟨p,hp,e1,e2⟩
   ·rw [e]; trivial
   ·obtain ⟨j,hj⟩:=î.1 hp
    rw [ģ] at hj
    have:=hO3 j p.2 hj.2
    have e3:(w0.re W1 X1 F1 O1 []).O id j = a.tmps.getD t undef:=by
     show (if id = id then a.tmps.getD (slots.getD j 0) undef else w0.O id j) = _
     rw [Á rfl,Ý,hj.1,← e1]
     rfl
    rw [← e2,← e3]
    exact this
  blk:=fun i b hb=>by
   have e:i ≠ id:=fun e=>by
    have:(⟨slots.zip cs3,(id,none) :: s3.bl⟩ : St).blk id = none:=by
     show lk ((id,none) :: s3.bl) none id = none
     simp [lk]
    rw [e,this] at hb; cases hb
   rw [hne i e] at hb
   refine BR.drop (b1:=(w0.re W1 X1 F1 O1 []).re (w'.putObj l (.loop rec4)) (fun g=>g = l) (fun _=>none) O1 a'.defers) (fun g q=>q) ?_ hcs3 hne (r4.blk i b hb)
   funext j
   exact (Ã e).symm
  sep:=fun i j bi bj g hi hj li lj gi gj=>by
   have ek:∀ i,i = id->(⟨slots.zip cs3,(id,none) :: s3.bl⟩ : St).blk i = none:=fun i e=>by
    show lk ((id,none) :: s3.bl) none i = none
    simp [lk,e]
   have ei:i ≠ id:=fun e=>by rw [ek i e] at hi; cases hi
   have ej:j ≠ id:=fun e=>by rw [ek j e] at hj; cases hj
   rw [hne i ei] at hi
   rw [hne j ej] at hj
   exact r'.sep i j bi bj g hi hj li lj gi gj }
 have key:a'.defers = [] ∧ ∃ v,(results fn a'.tmps).run P w' = .ok v w' ∧ rangePost Fence.wide 0 P l Q { a with defers:=[aBV w.heap.size] ++ a.defers } (.returned v) w':=by
  refine ⟨r'.defers,.tuple #[],?_,none,_,hend,?_⟩
  ·unfold results
   rw [l5]
   simp
  ·refine hQ _ _ [w.heap.size] _ _ _ _ ⟨?_,?_,?_,?_⟩ ⟨fun _=>rfl,rfl,by simp,fun D hD=>?_⟩ rB
   ·refine ⟨(r'.below.os.trans (by rw [← hW1]; rfl)).trans r.below.os,(r'.below.tape.trans (by rw [← hW1]; rfl)).trans r.below.tape,(r'.below.output.trans (by rw [← hW1]; rfl)).trans r.below.output,ñ hs01 hs14,fun k hk=>?_⟩
    have hkl:=c8.lt hk
    have hkw:k < w.heap.size:=ę hkl r.below.size
    exact (World.putObj_heap_other (by omega)).trans ((r'.below.block k fun q=>hk (zY hs01 q)).trans ((hold k hkw).trans (r.below.block k hk)))
   ·exact r.h0le.trans r'.h0le
   ·exact fun g hg=>(r'.hbase g fun q=>hg (zY hs01 q)).trans (r.hbase g hg)
   ·exact fun g q=>zY hs01 (zY hs14 q)
   ·have e:D = w.heap.size:=by simpa using hD
    subst e
    exact ⟨.inl r.below.size,fun q=>hnD (zY hs14 q),(World.putObj_heap_other (by omega)).trans ((r'.below.block _ hnD).trans hK1),(r'.hbase _ hnD).trans (hhn _ (É _))⟩
 rcases hex with rfl | rfl
 ·exact key
 ·exact key
end
end Vm
end
section
namespace Vm
open Go.RowKit
section
variable {β:Type} {T:CJ} {fr:List (Nat × V)} {bl:List (Nat × Option aL)}
theorem aDz (x ps id id2:Nat) (slots slots2:List Nat) (k:Ex->St->Option β):bD T (.hand (aA5 x ps id id2 slots slots2)) ⟨fr,bl⟩ k = rK fr x fun v=>cG bl id2 fun b2=>jX b2 (cG bl id fun b=>O8 b fun cs=>GQ fr slots2 fun vs=>k .normal ⟨(ps,v) :: slots.zip cs,(id2,some (.outer vs)) :: bl⟩):=by
 unfold bD
 rw [TC]
 unfold aA5 rK cG
 rw [U9,U9,ĳ,Ĩ]
 cases lk bl none id2 with
 | some b=>rfl
 | none =>
  cases lk bl none id with
  | none=>rfl
  | some b =>
   cases b with
   | outer cs =>
    show k .normal _ = jX none (O8 (some (.outer cs)) _)
    unfold jX O8
    simp only
    rw [VR]
    rfl
   | _=>rfl
theorem aBA (dC dD id2:Nat) (slots2:List Nat) (k:Ex->St->Option β):bD T (.hand (VN dC dD id2 slots2)) ⟨fr,bl⟩ k = cG bl id2 fun b=>O8 b fun cs=>k .normal ⟨(dD,.d (.bool false)) :: (dC,.d (.bool true)) :: slots2.zip cs,(id2,none) :: bl⟩:=by
 unfold bD
 rw [TC]
 unfold VN cG
 rw [U9,ĳ,Ĩ]
 cases lk bl none id2 with
 | none=>rfl
 | some b=>cases b <;> rfl
end
theorem YOk.dst {y ntR id:Nat} {slots:List Nat} {ps:Nat} {asg body:Code}:∀ (w0:c8) (h0:Hp),YOk y ntR id slots ps asg body w0 h0->∀ d,d ≠ y->w0.F d = none:=by
 rintro w0 h0 ⟨_,_,h,_⟩ d hd
 rw [h d,Ã hd]
noncomputable def aUT:Code->Code
 | .rangeFunc _ _ a _=>a
 | c=>c
noncomputable def aUh:Code->Code
 | .rangeFunc _ _ _ b=>b
 | c=>c
end Vm
end
section
namespace Vm
open Go.RowKit
def dIs:List (List D)->Option (List Int)
 | []=>some []
 | [.int .i64 n] :: r=>(dIs r).map fun l=>n :: l
 | _=>none
theorem aB3:∀ l:List Int,dIs (cM cI l) = some l
 | []=>rfl
 | n :: l=>by
  show dIs ([.int .i64 n] :: cM cI l) = _
  simp [dIs,aB3 l]
theorem aG5:∀ {rows:List (List D)} {l:List Int},dIs rows = some l->rows = cM cI l
 | [],l,e=>by simp only [dIs,Å] at e; subst e; rfl
 | row :: r,l,e=>by
  unfold dIs at e
  split at e
  ·rename_i q; cases q
  ·rename_i n r' q
   cases q
   obtain ⟨l',h1,rfl⟩:=Â.1 e
   rw [aG5 h1]
   rfl
  ·cases e
def aIp (x:Int):List Int->List Int
 | []=>[x]
 | y :: l=>if x <= y then x :: y :: l else y :: aIp x l
def EM:List Int->List Int
 | []=>[]
 | x :: l=>aIp x (EM l)
theorem UU (x:Int):∀ l:List Int,(aIp x l).Perm (x :: l)
 | []=>List.Perm.refl _
 | y :: l=>by
  unfold aIp
  split
  ·exact List.Perm.refl _
  ·exact ((UU x l).cons y).trans (List.Perm.swap x y l)
theorem WB (x:Int):∀ l:List Int,l.Pairwise (· <= ·)->(aIp x l).Pairwise (· <= ·)
 | [],_=>Þ.2 ⟨fun _ h=>(by cases h),List.Pairwise.nil⟩
 | y :: l,h=>by
  have h':=Þ.1 h
  unfold aIp
  split
  ·rename_i c
   refine Þ.2 ⟨fun z hz=>?_,h⟩
   rcases Ô.1 hz with q | q
   ·omega
   ·have:=h'.1 z q; omega
  ·rename_i c
   refine Þ.2 ⟨fun z hz=>?_,WB x l h'.2⟩
   rcases Ô.1 ((UU x l).mem_iff.1 hz) with q | q
   ·omega
   ·exact h'.1 z q
theorem LK:∀ l:List Int,(EM l).Perm l
 | []=>List.Perm.refl _
 | x :: l=>(UU x _).trans ((LK l).cons x)
theorem LW:∀ l:List Int,(EM l).Pairwise (· <= ·)
 | []=>List.Pairwise.nil
 | x :: l=>WB x _ (LW l)
theorem XM (l:List Int):EM l = l.mergeSort fun x y=>decide (x <= y):=by
 refine List.Perm.eq_of_pairwise (le:=(· <= ·)) (fun a b _ _ h1 h2=>by omega) (LW l) ?_ ((LK l).trans (List.mergeSort_perm l _).symm)
 have:=Ũ (le:=fun (x y:Int)=>decide (x <= y)) (fun a b c q1 q2=>by simp at *; omega) (fun a b=>by simp; omega) l
 exact this.imp fun {a b} q=>by simpa using q
def GA (l:List Int):List Int:=Lib.compact l
def AL (k:Nat) (l:List Int):List Int:=l.take k ++ List.replicate (l.length - k) 0
section
variable {β:Type} {T:CJ} {fr:List (Nat × V)} {bl:List (Nat × Option aL)}
def aA9 (id ver:Nat) (b:Option aL) (kk:List (Nat × Option aL)->Option β):Option β:=match b with
 | some (.rows v e size rows)=>if (v = ver ∧ size = 1) ∧ rows.length < 4611686018427387904 then (dIs rows).bind fun zs=>kk [(id,some (.rows v e size (cM cI (EM zs))))] else none
 | _=>none
def YB (v:V) (bl:List (Nat × Option aL)) (kk:List (Nat × Option aL)->Option β):Option β:=match v with
 | .own id ver=>aA9 id ver (lk bl none id) kk
 | _=>none
def aA3 (id ver:Nat) (b:Option aL) (kk:V->List (Nat × Option aL)->Option β):Option β:=match b with
 | some (.rows v e size rows)=>if v = ver ∧ size = 1 then (dIs rows).bind fun zs=>kk (.own id (v + 1)) [(id,some (.rows (v + 1) e size (cM cI (GA zs))))] else none
 | _=>none
def YF (v:V) (bl:List (Nat × Option aL)) (kk:V->List (Nat × Option aL)->Option β):Option β:=match v with
 | .own id ver=>aA3 id ver (lk bl none id) kk
 | _=>none
def VU (id ver:Nat) (n:Int) (b:Option aL) (kk:List (Nat × Option aL)->Option β):Option β:=match b with
 | some (.rows v e size rows)=>if (v = ver ∧ size = 1) ∧ 0 <= n ∧ n.toNat <= rows.length then (dIs rows).bind fun zs=>kk [(id,some (.rows v e size (cM cI (AL n.toNat zs))))] else none
 | _=>none
def SS (v i:V) (bl:List (Nat × Option aL)) (kk:List (Nat × Option aL)->Option β):Option β:=match v,i with
 | .own id ver,.d (.int .i64 n)=>VU id ver n (lk bl none id) kk
 | _,_=>none
end
def LP (s:Nat) (dead:List Nat) (st:St):Option St:=YB (st.get s) st.bl fun wr=>some ⟨RE dead st.fr,wr ++ st.bl⟩
def L5 (s out:Nat) (dead:List Nat) (st:St):Option St:=YF (st.get s) st.bl fun w wr=>some ⟨(out,w) :: RE dead st.fr,wr ++ st.bl⟩
def GP (s i:Nat) (dead:List Nat) (st:St):Option St:=SS (st.get s) (st.get i) st.bl fun wr=>some ⟨RE dead st.fr,wr ++ st.bl⟩
section
variable {β:Type} {T:CJ} {fr:List (Nat × V)} {bl:List (Nat × Option aL)}
theorem aEK {γ:Type} (v:V) (kk:List (Nat × Option aL)->Option β) (g:β->Option γ):(YB v bl kk).bind g = YB v bl fun wr=>(kk wr).bind g:=by
 unfold YB
 cases v <;> try rfl
 rename_i id ver
 simp only
 unfold aA9
 generalize lk bl none id = b
 rcases b with _ | b <;> try rfl
 cases b <;> try rfl
 rename_i v e size rows
 simp only
 split
 ·cases dIs rows <;> rfl
 ·rfl
theorem aF0 {γ:Type} (v:V) (kk:V->List (Nat × Option aL)->Option β) (g:β->Option γ):(YF v bl kk).bind g = YF v bl fun w wr=>(kk w wr).bind g:=by
 unfold YF
 cases v <;> try rfl
 rename_i id ver
 simp only
 unfold aA3
 generalize lk bl none id = b
 rcases b with _ | b <;> try rfl
 cases b <;> try rfl
 rename_i v e size rows
 simp only
 split
 ·cases dIs rows <;> rfl
 ·rfl
theorem aCy {γ:Type} (v i:V) (kk:List (Nat × Option aL)->Option β) (g:β->Option γ):(SS v i bl kk).bind g = SS v i bl fun wr=>(kk wr).bind g:=by
 unfold SS
 cases v <;> try rfl
 rename_i id ver
 cases i <;> try rfl
 rename_i d
 cases d <;> try rfl
 rename_i kd n
 cases kd <;> try rfl
 simp only
 unfold VU
 generalize lk bl none id = b
 rcases b with _ | b <;> try rfl
 cases b <;> try rfl
 rename_i v e size rows
 simp only
 split
 ·cases dIs rows <;> rfl
 ·rfl
theorem aDW (s:Nat) (dead:List Nat) (k:Ex->St->Option β):bD T (.hand (LP s dead)) ⟨fr,bl⟩ k = rK fr s fun v=>YB v bl fun wr=>k .normal ⟨T6 dead fr,wr ++ bl⟩:=by
 unfold bD
 rw [TC]
 unfold LP rK
 rw [← aBW,ĳ,Ĩ]
 exact aEK _ _ _
theorem aDd (s out:Nat) (dead:List Nat) (k:Ex->St->Option β):bD T (.hand (L5 s out dead)) ⟨fr,bl⟩ k = rK fr s fun v=>YF v bl fun w wr=>k .normal ⟨(out,w) :: T6 dead fr,wr ++ bl⟩:=by
 unfold bD
 rw [TC]
 unfold L5 rK
 rw [← aBW,ĳ,Ĩ]
 exact aF0 _ _ _
theorem aBM (s i:Nat) (dead:List Nat) (k:Ex->St->Option β):bD T (.hand (GP s i dead)) ⟨fr,bl⟩ k = rK fr s fun v=>rK fr i fun j=>SS v j bl fun wr=>k .normal ⟨T6 dead fr,wr ++ bl⟩:=by
 unfold bD
 rw [TC]
 unfold GP rK
 rw [← aBW,ĳ,Ĩ]
 exact aCy _ _ _ _
theorem aIF (id ver:Nat) (kk:List (Nat × Option aL)->Option β):YB (.own id ver) bl kk = cG bl id fun b=>aA9 id ver b kk:=rfl
theorem aHX (id ver:Nat) (kk:V->List (Nat × Option aL)->Option β):YF (.own id ver) bl kk = cG bl id fun b=>aA3 id ver b kk:=rfl
theorem aFD (id ver:Nat) (n:Int) (kk:List (Nat × Option aL)->Option β):SS (.own id ver) (.d (.int .i64 n)) bl kk = cG bl id fun b=>VU id ver n b kk:=rfl
theorem aE7 (id v e:Nat) (xs:List Int) (kk:List (Nat × Option aL)->Option β):aA9 id v (some (.rows v e 1 (cM cI xs))) kk = if xs.length < 4611686018427387904 then kk [(id,some (.rows v e 1 (cM cI (EM xs))))] else none:=by
 simp only [aA9,aB3,and_self,true_and,À,show (cM cI xs).length = xs.length from by simp [cM]]
theorem aES (id v e:Nat) (xs:List Int) (kk:V->List (Nat × Option aL)->Option β):aA3 id v (some (.rows v e 1 (cM cI xs))) kk = kk (.own id (v + 1)) [(id,some (.rows (v + 1) e 1 (cM cI (GA xs))))]:=by
 simp only [aA3,aB3,and_self,Č,À]
theorem aDN (id v e:Nat) (n:Int) (xs:List Int) (kk:List (Nat × Option aL)->Option β):VU id v n (some (.rows v e 1 (cM cI xs))) kk = if 0 <= n ∧ n.toNat <= xs.length then kk [(id,some (.rows v e 1 (cM cI (AL n.toNat xs))))] else none:=by
 simp only [VU,aB3,and_self,true_and,À,show (cM cI xs).length = xs.length from by simp [cM]]
end
theorem VP {h:Hp} {rows:List (List D)} {zs:List Int} {xs:List Value} (e:dIs rows = some zs) (hl:xs.length = rows.length * 1) (hr:lC h 1 rows xs):rows.length = zs.length ∧ xs = zs.map (Value.int .i64):=by
 have e':=aG5 e
 subst e'
 have hlen:(cM cI zs).length = zs.length:=by simp [cM]
 refine ⟨hlen,č fun j=>?_⟩
 rw [Ç]
 by_cases hj:j < zs.length
 ·have hrow:(cM cI zs)[j]? = some [.int .i64 zs[j]]:=by
   simp only [cM,Ç,é hj]
   rfl
  obtain ⟨_,h2⟩:=hr j _ hrow
  obtain ⟨_,u,h3,h4⟩:=h2 0 _ rfl
  rw [show j * 1 + 0 = j by omega] at h3
  rw [h3,é hj]
  cases h4
  rfl
 ·rw [ô (by omega),ô (by omega)]
  rfl
theorem PO (h:Hp) (zs:List Int):lC h 1 (cM cI zs) (zs.map (Value.int .i64)):=by
 intro i row hi
 have hil:i < zs.length:=by have:=(Æ.1 hi).1; simpa [cM] using this
 have:row = [.int .i64 zs[i]]:=by
  simp only [cM,Ç,é hil,ä,Å] at hi
  exact hi.symm
 subst this
 refine ⟨rfl,fun j x hj=>?_⟩
 match j,hj with
 | 0,hj =>
  cases hj
  exact ⟨rfl,.int .i64 zs[i],by simp [hil],.int _ _⟩
 | j + 1,hj=>simp at hj
section
variable {P:Program} {nt:Nat} {w0:c8} {w:World} {h0 h:Hp} {fr:Nat->V} {bl:Nat->Option aL} {a:Act} {hd:Nat->Value}
theorem Rl.frm (r:Rl nt w0 h0 fr bl a w h hd) {fr' : Nat->V} (hf:∀ t,fr' t = .any ∨ fr' t = fr t):Rl nt w0 h0 fr' bl a w h hd :=
 ⟨r.tmps,r.defers,r.fixed,r.below,r.hle,r.h0le,r.hbase,fun t=>by
   rcases hf t with e | e
   ·rw [e]; trivial
   ·rw [e]; exact r.frame t,r.blk,r.sep⟩
theorem U1 (dead:List Nat) (fr:List (Nat × V)) (t:Nat):lk (RE dead fr) .any t = .any ∨ (t ∉ dead ∧ lk (RE dead fr) .any t = lk fr .any t):=by
 rw [RE]
 induction dead with
 | nil=>exact .inr ⟨by simp,rfl⟩
 | cons d l ih =>
  simp only [ø,ą,lk]
  by_cases e:t = d
  ·rw [Á e]; exact .inl rfl
  ·rw [Ã e]
   rcases ih with q | ⟨q1,q2⟩
   ·exact .inl q
   ·exact .inr ⟨by simp [e,q1],q2⟩
abbrev aDA (o:Oper) (op:Op) (d:Option Nat):Prop:=o.guard = none ∧ o.op = op ∧ o.dst = d
theorem UT {ops:Array Oper} {Q:Exit->Act->World->Prop} {i:Nat} {rest:List Nat} {o:Oper} {d:Nat} {cv:Value} (ho:ops[i]? = some o) (hg:o.guard = none) (hdst:o.dst = some d) (r:Rl nt w0 h0 fr bl a w h hd) (hF:∀ t,w0.F t = none) (hdn:d < nt)
  {s:Sem Value} (he:execOp a.eval o = (do pure (.value (← s)))) (hr:s.run P w = .ok cv w) {v:V} (hv:R3 h hd bl cv v)
  (hK:∀ a',Rl nt w0 h0 (jP fr (some d) v) bl a' w h hd->a'.tmps.getD d undef = cv->(∀ t,t ≠ d->a'.tmps.getD t undef = a.tmps.getD t undef)->wpOps P ops Q rest a' w):wpOps P ops Q (i :: rest) a w:=by
 rw [ś]
 refine SN ho hg (nD he hr ?_)
 rw [hdst]
 obtain ⟨a',f1,ra,ga,oa⟩:=aNq r hF hdn cv v hv
 rw [f1]
 exact hK a' ra ga oa
def aKa (P:Program) (f:Nat):Prop:=∀ (w:World) (e:TypeId) (v:Value) (zs:List Int),zs.length < 4611686018427387904->lZ w e 1 v zs.length (zs.map (Value.int .i64))->Calls P f #[v] w fun en w'=>en = .returned (.tuple #[]) ∧ w.grownBy w' v.ownBlock ∧ lZ w' e 1 v zs.length ((EM zs).map (Value.int .i64))
def aLu (P:Program) (f:Nat):Prop:=∀ (w:World) (e:TypeId) (v:Value) (zs:List Int),lZ w e 1 v zs.length (zs.map (Value.int .i64))->Calls P f #[v] w fun en w'=>∃ v',en = .returned v' ∧ w.grownBy w' v.ownBlock ∧ lZ w' e 1 v' (GA zs).length ((GA zs).map (Value.int .i64)) ∧ ∀ g,jH v' = some g->jH v = some g
theorem KW (zs:List Int):(EM zs).length = zs.length:=(LK zs).length_eq
theorem VK (zs:List Int):(cM cI zs).length = zs.length:=by simp [cM]
theorem aFE (r:Rl nt w0 h0 fr bl a w h hd) {s id ver:Nat} (hs:fr s = .own id ver) {e size:Nat} {rows:List (List D)} (hb:bl id = some (.rows ver e size rows)):a.tmps.getD s undef = hd id:=by
 have hx:R3 h hd bl (a.tmps.getD s undef) (.own id ver):=by rw [← hs]; exact r.frame s
 obtain ⟨b,c',hb',hc',hle,g1,he⟩ : ∃ b c,bl id = some b ∧ b.ver? = some c ∧ ver <= c ∧ (a.tmps.getD s undef).oneCell' = true ∧ (ver = c->a.tmps.getD s undef = hd id):=hx
 rw [hb] at hb'
 cases hb'
 simp only [aL.ver?,Å] at hc'
 exact he hc'
theorem aGQ {ops:Array Oper} {Q:Exit->Act->World->Prop} {i:Nat} {rest:List Nat} {o:Oper} {d d0 f:Nat} {cl:Call} {cv:Value} (ho:ops[i]? = some o) (hg:o.guard = none) (hop:o.op = .call cl) (hc1:cl.callee = .value (.func f)) (hc2:cl.args = #[.tmp d0]) (hdst:o.dst = some d) (hv:a.tmps.getD d0 undef = cv) {fn:Func} (hfn:P.funcs[f]? = some fn) (l2:fn.name ≠ "runtime.NumGoroutine") (l6:fn.body.isSome = true)
  {R:Ending->World->Prop} (h:Calls P f #[cv] w R) (hR:∀ en w',R en w'->∃ v,en = .returned v ∧ wpOps P ops Q rest (a.put (some d) v) w'):wpOps P ops Q (i :: rest) a w:=by
 rw [ś]
 refine SN ho hg ?_
 obtain ⟨bd,hbd⟩:=ā.1 l6
 have hev:a.eval (.tmp d0) = cv:=hv
 have hexec:(execOp a.eval o).run P w = .ok (.enter f #[cv]) w:=by
  simp only [Ì] at hv
  simp [execOp,hop,resolve,hc1,hc2,hv,Act.eval,Deferred.ofValue,invoke,callFunc,hfn,l2,hbd]
 unfold Oper.wp
 rw [hexec]
 simp only [Oper.upon]
 refine h.mono ?_
 intro en w' q
 obtain ⟨v,rfl,q2⟩:=hR en w' q
 rw [hdst]
 exact q2
theorem aIq {s d1 d2 f rid:Nat} {dead:List Nat} {o1 o2:Oper} {cl:Call} {fn:Func} (hS:aKa P f ∧ P.funcs[f]? = some fn ∧ fn.name ≠ "runtime.NumGoroutine" ∧ fn.body.isSome = true) (h1:aDA o1 (.move (.tmp s)) (some d1)) (h2:aDA o2 (.call cl) (some d2)) (hc1:cl.callee = .value (.func f)) (hc2:cl.args = #[.tmp d1])
  (hlt:d1 < nt ∧ d2 < nt) (hdead:d1 ∈ dead ∧ d2 ∈ dead):bC P nt (.region rid #[o1,o2] false) (.hand (LP s dead)):=by
 intro C hC n w0 h0 st s' ex a w h hd Q hF he r hQ
 simp only [aR] at he
 cases hh:LP s dead st with
 | none=>rw [hh] at he; cases he
 | some z =>
  rw [hh] at he
  cases he
  unfold LP YB at hh
  split at hh
  ·rename_i id ver hs
   unfold aA9 at hh
   split at hh
   ·rename_i v e size rows hb
    replace hb:st.blk id = some (.rows v e size rows):=hb
    split at hh
    ·rename_i hc
     obtain ⟨⟨rfl,rfl⟩,hlen⟩:=hc
     obtain ⟨zs,hz,hh⟩:=ě.1 hh
     cases hh
     have hv:=aFE r hs hb
     refine ŧ ?_
     rw [show List.range (#[o1,o2]:Array Oper).size = [0,1] from rfl]
     refine UT (o:=o1) rfl h1.1 h1.2.2 r hF hlt.1 (s:=pure (a.eval (.tmp s))) (by simp [execOp,h1.2.1]) (cv:=hd id) (by rw [show a.eval (.tmp s) = hd id from hv]; rfl) (v:=.any) trivial fun a1 r1 g1 _=>?_
     obtain ⟨q1,q2,⟨xs,q3,q4⟩,q5⟩:=r1.blk id _ hb
     obtain ⟨e1,e2⟩:=VP hz q3.1 q4
     rw [e1,e2] at q3
     obtain ⟨hS,hfn,l2,l6⟩:=hS
     refine aGQ (o:=o2) (f:=f) rfl h2.1 h2.2.1 hc1 hc2 h2.2.2 g1 hfn l2 l6 (hS w e (hd id) zs (by omega) q3) ?_
     rintro en w' ⟨rfl,hg,hown⟩
     refine ⟨_,rfl,?_⟩
     have r2:=r1.setRows (w':=w') (some d2) (fun x q=>by cases q; exact ⟨hlt.2,hF _⟩) (.tuple #[]) id v e 1 rows (cM cI (EM zs)) hb ((EM zs).map (Value.int .i64)) (by rw [VK,KW,e1]) hg (by rw [VK,KW]; exact hown) (PO h _)
     refine hQ _ _ h hd (r2.frm fun t=>?_)
     rcases U1 dead st.fr t with q | ⟨q,q'⟩
     ·exact .inl q
     ·refine .inr (q'.trans ?_)
      have n1:t ≠ d1:=fun e=>q (e ▸ hdead.1)
      have n2:t ≠ d2:=fun e=>q (e ▸ hdead.2)
      simp [jP,ĺ n1,ĺ n2,St.get]
    ·cases hh
   ·cases hh
  ·cases hh
theorem aI0 {s out d1 d2 f rid:Nat} {dead:List Nat} {o1 o2 o3:Oper} {cl:Call} {fn:Func} (hS:aLu P f ∧ P.funcs[f]? = some fn ∧ fn.name ≠ "runtime.NumGoroutine" ∧ fn.body.isSome = true) (h1:aDA o1 (.move (.tmp s)) (some d1)) (h2:aDA o2 (.call cl) (some d2)) (h3:o3.guard = none ∧ (o3.op = .move (.tmp d2) ∨ o3.op = .assign (.tmp d2)) ∧ o3.dst = some out) (hc1:cl.callee = .value (.func f)) (hc2:cl.args = #[.tmp d1])
  (hlt:d1 < nt ∧ d2 < nt ∧ out < nt) (hdead:d1 ∈ dead ∧ d2 ∈ dead):bC P nt (.region rid #[o1,o2,o3] false) (.hand (L5 s out dead)):=by
 intro C hC n w0 h0 st s' ex a w h hd Q hF he r hQ
 simp only [aR] at he
 cases hh:L5 s out dead st with
 | none=>rw [hh] at he; cases he
 | some z =>
  rw [hh] at he
  cases he
  unfold L5 YF at hh
  split at hh
  ·rename_i id ver hs
   unfold aA3 at hh
   split at hh
   ·rename_i v e size rows hb
    replace hb:st.blk id = some (.rows v e size rows):=hb
    split at hh
    ·rename_i hc
     obtain ⟨rfl,rfl⟩:=hc
     obtain ⟨zs,hz,hh⟩:=ě.1 hh
     cases hh
     have hv:=aFE r hs hb
     refine ŧ ?_
     rw [show List.range (#[o1,o2,o3]:Array Oper).size = [0,1,2] from rfl]
     refine UT (o:=o1) rfl h1.1 h1.2.2 r hF hlt.1 (s:=pure (a.eval (.tmp s))) (by simp [execOp,h1.2.1]) (cv:=hd id) (by rw [show a.eval (.tmp s) = hd id from hv]; rfl) (v:=.any) trivial fun a1 r1 g1 _=>?_
     obtain ⟨q1,q2,⟨xs,q3,q4⟩,q5⟩:=r1.blk id _ hb
     obtain ⟨e1,e2⟩:=VP hz q3.1 q4
     have hml:rows.length <= maxLen:=q2
     rw [e1,e2] at q3
     obtain ⟨hS,hfn,l2,l6⟩:=hS
     refine aGQ (o:=o2) (f:=f) rfl h2.1 h2.2.1 hc1 hc2 h2.2.2 g1 hfn l2 l6 (hS w e (hd id) zs q3) ?_
     rintro en w' ⟨v',rfl,hg,hown,hnum⟩
     refine ⟨_,rfl,?_⟩
     have hle:(GA zs).length <= zs.length:=Lib.compact_length_le _
     obtain ⟨hd',r2⟩:=r1.grow (w':=w') (some d2) (fun x q=>by cases q; exact ⟨hlt.2.1,hF _⟩) id v e 1 rows (cM cI (GA zs)) hb v' ((GA zs).map (Value.int .i64)) (by rw [VK]; omega) hg (by rw [VK]; exact hown) (PO h _) (fun g hg=>.inr (hnum g hg))
     have g2:(a1.put (some d2) v').tmps.getD d2 undef = v':=by rw [VT r1 hlt.2.1,Á rfl]
     refine UT (o:=o3) (d:=out) rfl h3.1 h3.2.2 r2 hF hlt.2.2 (s:=pure ((a1.put (some d2) v').eval (.tmp d2))) (by rcases h3.2.1 with q | q <;> simp [execOp,q]) (cv:=v') (by rw [show (a1.put (some d2) v').eval (.tmp d2) = v' from g2]; rfl) (v:=.own id (v + 1)) ?_ fun a3 r3 _ _=>?_
     ·have:=r2.frame d2
      rw [g2] at this
      simpa [jP] using this
     ·refine hQ _ _ h hd' (r3.frm fun t=>?_)
      show lk ((out,V.own id (v + 1)) :: RE dead st.fr) .any t = .any ∨ lk ((out,V.own id (v + 1)) :: RE dead st.fr) .any t = _
      simp only [lk]
      by_cases e:t = out
      ·subst e
       exact .inr (by rw [Á rfl]; simp [jP])
      ·rw [Ã e]
       rcases U1 dead st.fr t with q | ⟨q,q'⟩
       ·exact .inl q
       ·refine .inr (q'.trans ?_)
        have n1:t ≠ d1:=fun e=>q (e ▸ hdead.1)
        have n2:t ≠ d2:=fun e=>q (e ▸ hdead.2)
        simp [jP,ĺ n1,ĺ n2,ĺ e,St.get]
    ·cases hh
   ·cases hh
  ·cases hh
noncomputable def aS6 (P:Program) (t:TypeId):TypeInfo:=(P.info? t).getD default
theorem aEq {s i d1 d2 d3 rid:Nat} {dead:List Nat} {o1 o2 o3 o4:Oper} {T eT:TypeId} {ei:TypeInfo} (hT:P.underlying T = some (.slice eT)) (hE:P.info? eT = some ei ∧ ei.zero = some (.int .i64 0) ∧ ei.size = 1) (h1:aDA o1 (.move (.tmp s)) (some d1)) (h2:aDA o2 (.move (.tmp i)) (some d2)) (h3:aDA o3 (.slice T (.tmp d1) (some (.tmp d2)) none none) (some d3))
  (h4:aDA o4 (.call { callee:=.builtin .clear,args:=#[.tmp d3],argTypes:=#[T] }) none)
  (hlt:d1 < nt ∧ d2 < nt ∧ d3 < nt) (hdead:d1 ∈ dead ∧ d2 ∈ dead ∧ d3 ∈ dead ∧ d1 ≠ d2 ∧ i ≠ d1):bC P nt (.region rid #[o1,o2,o3,o4] false) (.hand (GP s i dead)):=by
 intro C hC n w0 h0 st s' ex a w h hd Q hF he r hQ
 simp only [aR] at he
 cases hh:GP s i dead st with
 | none=>rw [hh] at he; cases he
 | some z =>
  rw [hh] at he
  cases he
  unfold GP SS at hh
  split at hh
  ·rename_i id ver q hs hi
   unfold VU at hh
   split at hh
   ·rename_i v e size rows hb
    replace hb:st.blk id = some (.rows v e size rows):=hb
    split at hh
    ·rename_i hc
     obtain ⟨⟨rfl,rfl⟩,c1,c2⟩:=hc
     obtain ⟨zs,hz,hh⟩:=ě.1 hh
     cases hh
     have hv:=aFE r hs hb
     have hq:a.tmps.getD i undef = .int .i64 q:=by
      have:=r.frame i
      rw [hi] at this
      obtain ⟨_,hrd⟩ : D.atom _ = true ∧ aW h (a.tmps.getD i undef) (.int .i64 q):=this
      generalize a.tmps.getD i undef = u at hrd
      cases hrd
      rfl
     refine ŧ ?_
     rw [show List.range (#[o1,o2,o3,o4]:Array Oper).size = [0,1,2,3] from rfl]
     refine UT (o:=o1) rfl h1.1 h1.2.2 r hF hlt.1 (s:=pure (a.eval (.tmp s))) (by simp [execOp,h1.2.1]) (cv:=hd id) (by rw [show a.eval (.tmp s) = hd id from hv]; rfl) (v:=.any) trivial fun a1 r1 g1 k1=>?_
     have hq1:a1.tmps.getD i undef = .int .i64 q:=(k1 i hdead.2.2.2.2).trans hq
     refine UT (o:=o2) rfl h2.1 h2.2.2 r1 hF hlt.2.1 (s:=pure (a1.eval (.tmp i))) (by simp [execOp,h2.2.1]) (cv:=.int .i64 q) (by rw [show a1.eval (.tmp i) = .int .i64 q from hq1]; rfl) (v:=.any) trivial fun a2 r2 g2 k2=>?_
     have g12:a2.tmps.getD d1 undef = hd id:=(k2 d1 hdead.2.2.2.1).trans g1
     obtain ⟨q1,q2,⟨xs,q3,q4⟩,q5⟩:=r2.blk id _ hb
     obtain ⟨e1,e2⟩:=VP hz q3.1 q4
     rw [e1,e2] at q3
     obtain ⟨ad,nn,cc,hsl,hadn⟩ : ∃ (ad:Option Addr) (nn cc:Nat),hd id = .slice ad nn cc ∧ nn = zs.length ∧ nn <= cc:=by
      rcases q3.2 with ⟨q6,q7⟩ | ⟨g,o,cap,cur,q6,q8,q9,_⟩
      ·exact ⟨none,0,0,q6,q7.symm,É _⟩
      ·exact ⟨_,_,_,q6,rfl,q9⟩
     have c2' : q.toNat <= zs.length:=by omega
     have hbd:=L9 (P:=P) (w:=w) (h:=h) (hd:=hd) (bl:=fun _=>none) (n:=nn) (c:=cc) (lov:=some (.int .i64 q)) (hiv:=none) (lo:=some (.d (.int .i64 q))) (hi:=none) (fun x e=>by cases e; exact ⟨_,rfl,rfl,.int _ _⟩) (fun x e=>by cases e) (fun e=>by cases e) (fun _=>rfl) (l:=q) (m:=(nn:Int)) rfl rfl c1 (by omega) (by simpa using hadn.2) true
     have hrun3:(Instr.sliceAt T (hd id) (some (.int .i64 q)) none none).run P w = .ok (.slice (if cc = q.toNat then ad else ad.map (·.add (q.toNat * 1))) (nn - q.toNat) (cc - q.toNat)) w:=by
      rw [hsl]
      simp [Instr.sliceAt,Instr.slice,ò hT,hbd,nB hE.1,hE.2.2,Result.andThen]
     refine UT (o:=o3) rfl h3.1 h3.2.2 r2 hF hlt.2.2 (s:=Instr.sliceAt T (a2.eval (.tmp d1)) (some (a2.eval (.tmp d2))) none none) (by simp [execOp,h3.2.1]) (cv:=_) (by rw [show a2.eval (.tmp d1) = hd id from g12,show a2.eval (.tmp d2) = .int .i64 q from g2]; exact hrun3) (v:=.any) trivial fun a3 r3 g3 k3=>?_
     have hfin:∃ w',(Builtin.clear_ #[T] o4.type #[a3.eval (.tmp d3)]).run P w = .ok (.tuple #[]) w' ∧ w.grownBy w' (hd id).ownBlock ∧ lZ w' e 1 (hd id) (AL q.toNat zs).length ((AL q.toNat zs).map (Value.int .i64)):=by
      rw [show a3.eval (.tmp d3) = _ from g3]
      have htl:(AL q.toNat zs).length = zs.length:=by simp [AL]; omega
      by_cases hzero:zs.length - q.toNat = 0
      ·refine ⟨w,?_,⟨rfl,rfl,rfl,É _,fun _ _ _=>rfl⟩,?_⟩
       ·rw [show nn - q.toNat = 0 by omega]
        cases (if cc = q.toNat then ad else Option.map (fun x=>x.add (q.toNat * 1)) ad) <;> simp [Builtin.clear_,ò hT]
       ·have:AL q.toNat zs = zs:=by
         unfold AL
         rw [hzero,List.replicate_zero,Û,Ğ (by omega)]
        rw [this]; exact q3
      ·rcases q3.2 with ⟨q6,q7⟩ | ⟨g,o,cap,cur,q6,q8,q9,q10,q11,q12⟩
       ·omega
       ·rw [q6] at hsl
        obtain ⟨s2',hn1⟩:=hadn
        injection hsl with s1 s2 s3
        subst s1 s3
        have hcq:¬ cap = q.toNat:=by omega
        rw [Ã hcq,ä,ħ]
        have hzc:(Builtin.zeroCells (Value.int .i64 0).cells (nn - q.toNat)).toList = List.replicate (nn - q.toNat) (Value.int .i64 0):=by
         refine č fun j=>?_
         rw [đ]
         by_cases hj:j < nn - q.toNat
         ·rw [Á hj]; simp [Builtin.zeroCells,Value.cells,hj,Nat.mod_one]
         ·rw [Ã hj,ô]; simp [Builtin.zeroCells,Value.cells]; omega
        have hlen:(List.replicate (nn - q.toNat) (Value.int .i64 0)).length = nn - q.toNat:=by simp
        have hfit:o * 1 + q.toNat + (nn - q.toNat) <= cur.size:=by omega
        have hrun:=ŋ P g (o * 1 + q.toNat * 1) e (List.replicate (nn - q.toNat) (Value.int .i64 0)) 0 cur w q8 (by rw [hlen]; omega) (fun u hu=>by rw [(List.mem_replicate.1 hu).2]; rfl)
        simp only [ď,Į] at hrun
        refine ⟨w.setRow g (cur.toList.take (o + q.toNat) ++ List.replicate (nn - q.toNat) (Value.int .i64 0) ++ cur.toList.drop (o + q.toNat + (List.replicate (nn - q.toNat) (Value.int .i64 0)).length)).toArray,?_,?_,?_⟩
        ·generalize hN:nn - q.toNat = N at hzc hrun hzero ⊢
         cases N with
         | zero=>exact absurd (by omega) hzero
         | succ N =>
          rw [← hzc] at hrun
          rw [← hzc]
          simp [Builtin.clear_,ò hT,zeroValue,CV hE.1,hE.2.1,Result.andThen,hrun]
        ·rw [q6]; exact CT w g _
        ·rw [q6,htl,← s2']
         refine ⟨by simp [htl,s2'],.inr ⟨g,o,cap,_,rfl,ŝ w g cur _ e _ q8,by omega,q10,by simp at hfit q11 ⊢; omega,?_⟩⟩
         refine č fun j=>?_
         rw [Ö,â]
         simp only [Į] at q12 ⊢
         by_cases hj:j < nn
         ·rw [Á hj]
          have hsp:=LX cur.toList (List.replicate (nn - q.toNat) (Value.int .i64 0)) (o + q.toNat) (o + j) (by simp; omega)
          rw [hsp]
          unfold AL
          rw [Ă,List.map_replicate]
          by_cases hjq:j < q.toNat
          ·rw [Ã (by omega),ë (by simp; omega),Ç,Ö,Á hjq]
           have:=Ą (fun l=>l[j]?) q12
           simp only [Ö,â,Ç] at this
           rw [Á (by omega)] at this
           exact this
          ·rw [Á ⟨by omega,by simp; omega⟩,ó (by simp; omega)]
           rw [đ,đ,Á (by omega),Á (by simp; omega)]
         ·rw [Ã hj,ô]
          simp [htl,s2']; omega
     obtain ⟨w',hrun,hg,hown⟩:=hfin
     rw [ś]
     refine SN (o:=o4) rfl h4.1 (nD (s:=Builtin.clear_ #[T] o4.type #[a3.eval (.tmp d3)]) (by simp [execOp,h4.2.1,resolve,invoke,builtin]) hrun ?_)
     rw [h4.2.2]
     have htl:(AL q.toNat zs).length = zs.length:=by simp [AL]; omega
     have r4:=r3.setRows (w':=w') none (fun x q=>by cases q) (.tuple #[]) id v e 1 rows (cM cI (AL q.toNat zs)) hb ((AL q.toNat zs).map (Value.int .i64)) (by rw [VK,htl,e1]) hg (by rw [VK]; exact hown) (PO h _)
     refine hQ _ _ h hd (r4.frm fun t=>?_)
     rcases U1 dead st.fr t with q | ⟨q,q'⟩
     ·exact .inl q
     ·refine .inr (q'.trans ?_)
      have n1:t ≠ d1:=fun e=>q (e ▸ hdead.1)
      have n2:t ≠ d2:=fun e=>q (e ▸ hdead.2.1)
      have n3:t ≠ d3:=fun e=>q (e ▸ hdead.2.2.1)
      simp [jP,ĺ n1,ĺ n2,ĺ n3,St.get]
    ·cases hh
   ·cases hh
  ·cases hh
end
end Vm
end
end Go.Proofs.Ytgjcnbgfaimepaa
