/-
  DERIVED: THE SHELF's CONTRACTS AT THIS DUMP, IN PLAIN WORDS (tools/lay-plain.mjs out of 'TryShelf.lean', which tools/lay-shelf.mjs wrote): THE SAME DECLARATIONS UNDER THE SAME NAMES: 'import', 'namespace', 'open', 'def', 'theorem' AND NOTHING ELSE: no command of the shelf's: FOR A HAND-IN. Each laying: the table of numbers ('.._ren') and one theorem, a field a fact of the dump's own or the kernel's comparison; each contract: ONE APPLICATION.
-/
import Derived.Shelf.SlSortCmp.NoneTotal
import Derived.Ground.SlsfProg
import Derived.Shelf.Bits.Mul64
import Derived.Test.YtiimibimkpimbaaChecked
namespace Go.Proofs
open Go.Shelf
open Go.RowKit Go.Lib in
def Try.lays212_ren:Go.Shelf.Ren:=⟨fun | 212=>76 | 263=>78 | 264=>79 | n=>n,fun | 46=>84 | 51=>107 | 146=>136 | 53=>109 | 148=>138 | n=>n,fun | n=>n⟩
theorem Try.lays212:Go.Proofs.Lays.n212 Try.prog Try.lays212_ren:={
 mixed:=by kernel_rfl
 f212:=Try.func76.trans (congrArg some (by kernel_rfl))
 f263:=Try.func78.trans (congrArg some (by kernel_rfl))
 f264:=Try.func79.trans (congrArg some (by kernel_rfl))
 t46:=Try.underlying84
 a46:=Try.isAgg84
 z46:=Try.sizeOf84
 v46:=Try.zeroValue84
 t51:=Try.underlying107
 a51:=Try.isAgg107
 z51:=Try.sizeOf107
 v51:=Try.zeroValue107
 t53:=Try.underlying109
 a53:=Try.isAgg109
 z53:=Try.sizeOf109
 v53:=Try.zeroValue109
 t146:=Try.underlying136
 a146:=Try.isAgg136
 z146:=Try.sizeOf136
 v146:=Try.zeroValue136
 t148:=Try.underlying138
 a148:=Try.isAgg138
 z148:=Try.sizeOf138
 v148:=Try.zeroValue138 }
open Go.RowKit Go.Lib in
theorem Try.bits_Mul (x y:Nat) (hx:x < 18446744073709551616) (hy:y < 18446744073709551616) (w:World) :
  Calls Try.prog 76 #[.int .u64 x,.int .u64 y] w fun e w'=>e = .returned (.tuple #[.int .u64 ((x * y / 18446744073709551616:Nat):Int),.int .u64 ((x * y % 18446744073709551616:Nat):Int)]) ∧ w' = w:=Any.bits_Mul Try.lays212 x y hx hy w
def Try.sortFn_ren:Go.Shelf.Ren:=⟨fun | 6=>31 | 15=>44 | 14=>43 | 28=>61 | 29=>62 | 20=>53 | 21=>54 | 22=>55 | 23=>56 | 24=>57 | 25=>58 | 26=>59 | 27=>60 | 46=>71 | 47=>72 | 48=>73 | 49=>74 | 50=>75 | 57=>77 | n=>n,fun | 22=>22 | 24=>32 | 25=>65 | 3=>3 | 39=>84 | 0=>0 | 53=>107 | 55=>109 | 4=>4 | 46=>100 | 45=>99 | 50=>104 | 5=>5 | 9=>9 | 66=>124 | 70=>128 | 76=>133 | 77=>134 | n=>n,fun | n=>n⟩
theorem Try.sortFn:Go.Proofs.SlLaysF0.n6 Try.prog Try.sortFn_ren:={
 mixed:=by kernel_rfl
 f6:=⟨Try.f31.name,by decide,Try.func31.trans (congrArg some (by kernel_rfl))⟩
 f14:=⟨Try.f43.name,by decide,Try.func43.trans (congrArg some (by kernel_rfl))⟩
 f15:=Try.func44.trans (congrArg some (by kernel_rfl))
 f20:=⟨Try.f53.name,by decide,Try.func53.trans (congrArg some (by kernel_rfl))⟩
 f21:=⟨Try.f54.name,by decide,Try.func54.trans (congrArg some (by kernel_rfl))⟩
 f22:=⟨Try.f55.name,by decide,Try.func55.trans (congrArg some (by kernel_rfl))⟩
 f23:=⟨Try.f56.name,by decide,Try.func56.trans (congrArg some (by kernel_rfl))⟩
 f24:=⟨Try.f57.name,by decide,Try.func57.trans (congrArg some (by kernel_rfl))⟩
 f25:=⟨Try.f58.name,by decide,Try.func58.trans (congrArg some (by kernel_rfl))⟩
 f26:=⟨Try.f59.name,by decide,Try.func59.trans (congrArg some (by kernel_rfl))⟩
 f27:=⟨Try.f60.name,by decide,Try.func60.trans (congrArg some (by kernel_rfl))⟩
 f28:=Try.func61.trans (congrArg some (by kernel_rfl))
 f29:=Try.func62.trans (congrArg some (by kernel_rfl))
 f46:=⟨Try.f71.name,by decide,Try.func71.trans (congrArg some (by kernel_rfl))⟩
 f47:=Try.func72.trans (congrArg some (by kernel_rfl))
 f48:=Try.func73.trans (congrArg some (by kernel_rfl))
 f49:=⟨Try.f74.name,by decide,Try.func74.trans (congrArg some (by kernel_rfl))⟩
 f50:=⟨Try.f75.name,by decide,Try.func75.trans (congrArg some (by kernel_rfl))⟩
 f57:=⟨Try.f77.name,by decide,Try.func77.trans (congrArg some (by kernel_rfl))⟩
 t0:=Try.underlying0
 a0:=Try.isAgg0
 z0:=Try.sizeOf0
 v0:=Try.zeroValue0
 t3:=Try.underlying3
 a3:=Try.isAgg3
 z3:=Try.sizeOf3
 v3:=Try.zeroValue3
 t4:=Try.underlying4
 a4:=Try.isAgg4
 z4:=Try.sizeOf4
 v4:=Try.zeroValue4
 t5:=Try.underlying5
 a5:=Try.isAgg5
 z5:=Try.sizeOf5
 v5:=Try.zeroValue5
 t9:=Try.underlying9
 a9:=Try.isAgg9
 z9:=Try.sizeOf9
 v9:=Try.zeroValue9
 t22:=Try.underlying22
 a22:=Try.isAgg22
 z22:=Try.sizeOf22
 v22:=Try.zeroValue22
 t25:=Try.underlying65
 a25:=Try.isAgg65
 z25:=Try.sizeOf65
 v25:=Try.zeroValue65
 t39:=Try.underlying84
 a39:=Try.isAgg84
 z39:=Try.sizeOf84
 v39:=Try.zeroValue84
 t45:=Try.underlying99
 a45:=Try.isAgg99
 z45:=Try.sizeOf99
 v45:=Try.zeroValue99
 t46:=Try.underlying100
 a46:=Try.isAgg100
 z46:=Try.sizeOf100
 v46:=Try.zeroValue100
 t50:=Try.underlying104
 a50:=Try.isAgg104
 z50:=Try.sizeOf104
 v50:=Try.zeroValue104
 t53:=Try.underlying107
 a53:=Try.isAgg107
 z53:=Try.sizeOf107
 v53:=Try.zeroValue107
 t55:=Try.underlying109
 a55:=Try.isAgg109
 z55:=Try.sizeOf109
 v55:=Try.zeroValue109
 t66:=Try.underlying124
 a66:=Try.isAgg124
 z66:=Try.sizeOf124
 v66:=Try.zeroValue124
 t70:=Try.underlying128
 a70:=Try.isAgg128
 z70:=Try.sizeOf128
 v70:=Try.zeroValue128
 t76:=Try.underlying133
 a76:=Try.isAgg133
 z76:=Try.sizeOf133
 v76:=Try.zeroValue133
 t77:=Try.underlying134
 a77:=Try.isAgg134
 z77:=Try.sizeOf134
 v77:=Try.zeroValue134 }
end Go.Proofs
