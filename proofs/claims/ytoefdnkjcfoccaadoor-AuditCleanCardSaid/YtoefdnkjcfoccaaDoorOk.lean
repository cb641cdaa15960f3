/- The machine is sound. -/
import Derived.Test.YtoefdnkjcfoccaaDoorVmG
import Derived.Test.YtoefdnkjcfoccaaDoorTab
import Derived.Test.YtoefdnkjcfoccaaDoorTold
set_option linter.unusedVariables false
set_option linter.unusedSimpArgs false
namespace Go.Proofs.YtoefdnkjcfoccaaDoor
open Vm
open Go.RowKit
open Go.ChangeShapes Go.WideShapes Go.Deep
set_option maxRecDepth 100000
theorem TK {o:Nat->List D->Option D} (h59:∀ ds x,o 59 ds = some x->uJ Tryd.prog 59 ds x) (h60:∀ ds x,o 60 ds = some x->uJ Tryd.prog 60 ds x) (h52:∀ ds x,o 52 ds = some x->uJ Tryd.prog 52 ds x):KT (aAR Tryd.prog) (TLQ o) :=
 ⟨bV Tryd.func29 aVI,⟨bV Tryd.func14 aVR,⟨bV Tryd.func30 aU5,⟨bV Tryd.func64 aVb,⟨bV Tryd.func74 aVS,⟨bV Tryd.func65 aVu,⟨bV Tryd.func55 aVE,⟨bV Tryd.func32 aVO,⟨bV Tryd.func31 aVe,⟨bV Tryd.func35 aVh,⟨bV Tryd.func56 aVa,⟨bV Tryd.func34 aV2,⟨bV Tryd.func33 aVQ,⟨bV Tryd.func36 aVM,⟨bV Tryd.func38 aVi,⟨bV Tryd.func37 aVH,⟨bV Tryd.func39 aV1,⟨bV Tryd.func40 aVq,⟨bV Tryd.func17 aV9,⟨bV Tryd.func45 aVk,⟨bV Tryd.func54 aVm,⟨bV Tryd.func49 aVx,⟨bV Tryd.func53 aVJ,⟨bV Tryd.func28 aVP,⟨bV Tryd.func48 aVo,⟨bV Tryd.func21 aV3,⟨bV Tryd.func75 aVY,⟨bV Tryd.func66 aVf,⟨bV Tryd.func57 aVT,⟨bV Tryd.func43 aU2,⟨aPx Tryd.func18 aVc,⟨bV Tryd.func7 lw7,⟨bV Tryd.func26 aVy,⟨bV Tryd.func11 aVB,⟨bV Tryd.func15 aVl,⟨bV Tryd.func47 aU9,⟨bV Tryd.func58 aVr,⟨bV Tryd.func46 aV7,⟨bV Tryd.func19 aU8,⟨bV Tryd.func20 aV4,⟨bV Tryd.func8 lw8,⟨bV Tryd.func27 aVV,⟨bV Tryd.func12 aVC,⟨bV Tryd.func13 aV5,⟨bV Tryd.func5 lw5,⟨bV Tryd.func16 aVU,⟨bV Tryd.func6 lw6,⟨bV Tryd.func24 aVw,⟨bV Tryd.func50 aVZ,⟨TI h59,⟨bV Tryd.func71 aVL,⟨bV Tryd.func69 aU6,⟨bV Tryd.func67 aVX,⟨bV Tryd.func68 aV0,⟨TI h60,⟨bV Tryd.func51 aVK,⟨bV Tryd.func22 aVp,⟨bV Tryd.func70 aVv,⟨bV Tryd.func61 aVz,⟨bV Tryd.func77 aVN,⟨bV Tryd.func76 aU1,⟨bV Tryd.func72 aVW,⟨bV Tryd.func62 aVn,⟨TI h52,⟨bV Tryd.func23 aVg,⟨bV Tryd.func9 lw9,⟨bV Tryd.func4 lw4,⟨TI aUL,⟨TI aTT,trivial⟩⟩⟩⟩⟩⟩⟩⟩⟩⟩⟩⟩⟩⟩⟩⟩⟩⟩⟩⟩⟩⟩⟩⟩⟩⟩⟩⟩⟩⟩⟩⟩⟩⟩⟩⟩⟩⟩⟩⟩⟩⟩⟩⟩⟩⟩⟩⟩⟩⟩⟩⟩⟩⟩⟩⟩⟩⟩⟩⟩⟩⟩⟩⟩⟩⟩⟩⟩⟩
theorem s0:∀ (n:Nat) (ds:List D) (x:D),P3 n ds = some x->uJ Tryd.prog 59 ds x
 | 0,ds,x,e=>(by cases e)
 | n + 1,ds,x,e=>L2 (T:=TQ (aOu (P3 n))) (fun f sf h=>(KT.lk (TK (s0 n) (fun _ _ e=>by cases e) (fun _ _ e=>by cases e)) (f:=f) (x:=.code sf) h).1 sf rfl) (fun f d h=>(KT.lk (TK (s0 n) (fun _ _ e=>by cases e) (fun _ _ e=>by cases e)) (f:=f) (x:=d) h).2) Tryd.checked.mixed Tryd.func59 aV6.g e
theorem BO:∀ (n:Nat) (ds:List D) (x:D),PO n ds = some x->uJ Tryd.prog 60 ds x
 | 0,ds,x,e=>(by cases e)
 | n + 1,ds,x,e=>L2 (T:=TQ (aPV (PO n))) (fun f sf h=>(KT.lk (TK (s0 1000) (BO n) (fun _ _ e=>by cases e)) (f:=f) (x:=.code sf) h).1 sf rfl) (fun f d h=>(KT.lk (TK (s0 1000) (BO n) (fun _ _ e=>by cases e)) (f:=f) (x:=d) h).2) Tryd.checked.mixed Tryd.func60 aU7.g e
theorem H9:∀ (n:Nat) (ds:List D) (x:D),PR n ds = some x->uJ Tryd.prog 52 ds x
 | 0,ds,x,e=>(by cases e)
 | n + 1,ds,x,e=>L2 (T:=TQ (aPc (PR n))) (fun f sf h=>(KT.lk (TK (s0 1000) (BO 1000) (H9 n)) (f:=f) (x:=.code sf) h).1 sf rfl) (fun f d h=>(KT.lk (TK (s0 1000) (BO 1000) (H9 n)) (f:=f) (x:=d) h).2) Tryd.checked.mixed Tryd.func52 aVj.g e
theorem aQ6:KT (aAR Tryd.prog) TL:=TK (s0 1000) (BO 1000) (H9 1000)
theorem aJy {f:Nat} {ds:List D} {x:D} (e:Vm.call TT f ds = some x) (hl:kG 0 ds = none):uJ Tryd.prog f ds x :=
 aDU (T:=TT) (fun f sf h=>(KT.lk aQ6 (f:=f) (x:=.code sf) h).1 sf rfl) (fun f d h=>(KT.lk aQ6 (f:=f) (x:=d) h).2) Tryd.checked.mixed e hl
end Go.Proofs.YtoefdnkjcfoccaaDoor
