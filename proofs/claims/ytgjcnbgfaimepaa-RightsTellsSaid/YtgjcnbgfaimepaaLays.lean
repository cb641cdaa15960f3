/-
  DERIVED: THE SHELF's CONTRACTS AT THIS DUMP, IN PLAIN WORDS (tools/lay-plain.mjs out of 'TryShelf.lean', which tools/lay-shelf.mjs wrote): THE SAME DECLARATIONS UNDER THE SAME NAMES: 'import', 'namespace', 'open', 'def', 'theorem' AND NOTHING ELSE: no command of the shelf's: FOR A HAND-IN. Each laying: the table of numbers ('.._ren') and one theorem, a field a fact of the dump's own or the kernel's comparison; each contract: ONE APPLICATION.
-/
import Derived.Shelf.Sort.Plain
import Derived.Shelf.Bits.Mul64
import Derived.Ground.Names2Prog
import Derived.Shelf.Slices.CompactI
import Derived.Shelf.Slices.In.SortNone
import Derived.Test.YtgjcnbgfaimepaaChecked
namespace Go.Proofs
open Go.Shelf
def Try.lays189_ren:Go.Shelf.Ren:=⟨fun | 189=>57 | 125=>80 | 257=>79 | 128=>103 | 129=>104 | 294=>95 | 295=>96 | 296=>97 | 297=>98 | 298=>99 | 299=>100 | 216=>87 | 300=>101 | 301=>102 | 328=>111 | 329=>112 | 330=>113 | 331=>114 | 332=>115 | 215=>108 | 343=>117 | n=>n,fun | 28=>23 | 3=>3 | 46=>107 | 0=>0 | 51=>142 | 53=>144 | 4=>4 | 183=>135 | 182=>134 | 131=>139 | 5=>5 | 9=>9 | 218=>153 | 222=>157 | 228=>162 | 229=>163 | n=>n,fun | n=>n⟩
theorem Try.lays189:Go.Proofs.Lays.n189 Try.prog Try.lays189_ren:={
 mixed:=by kernel_rfl
 f125:=Try.func80.trans (congrArg some (by kernel_rfl))
 f128:=Try.func103.trans (congrArg some (by kernel_rfl))
 f129:=Try.func104.trans (congrArg some (by kernel_rfl))
 f189:=Try.func57.trans (congrArg some (by kernel_rfl))
 f215:=Try.func108.trans (congrArg some (by kernel_rfl))
 f216:=Try.func87.trans (congrArg some (by kernel_rfl))
 f257:=Try.func79.trans (congrArg some (by kernel_rfl))
 f294:=Try.func95.trans (congrArg some (by kernel_rfl))
 f295:=Try.func96.trans (congrArg some (by kernel_rfl))
 f296:=Try.func97.trans (congrArg some (by kernel_rfl))
 f297:=Try.func98.trans (congrArg some (by kernel_rfl))
 f298:=Try.func99.trans (congrArg some (by kernel_rfl))
 f299:=Try.func100.trans (congrArg some (by kernel_rfl))
 f300:=Try.func101.trans (congrArg some (by kernel_rfl))
 f301:=Try.func102.trans (congrArg some (by kernel_rfl))
 f328:=Try.func111.trans (congrArg some (by kernel_rfl))
 f329:=Try.func112.trans (congrArg some (by kernel_rfl))
 f330:=Try.func113.trans (congrArg some (by kernel_rfl))
 f331:=Try.func114.trans (congrArg some (by kernel_rfl))
 f332:=Try.func115.trans (congrArg some (by kernel_rfl))
 f343:=Try.func117.trans (congrArg some (by kernel_rfl))
 t0:=Try.underlying0
 a0:=Try.isAgg0
 z0:=Try.sizeOf0
 v0:=Try.zeroValue0
 t3:=Try.underlying3
 a3:=Try.isAgg3
 z3:=Try.sizeOf3
 v3:=Try.zeroValue3
 t4:=Try.underlying4
 a4:=Try.isAgg4
 z4:=Try.sizeOf4
 v4:=Try.zeroValue4
 t5:=Try.underlying5
 a5:=Try.isAgg5
 z5:=Try.sizeOf5
 v5:=Try.zeroValue5
 t9:=Try.underlying9
 a9:=Try.isAgg9
 z9:=Try.sizeOf9
 v9:=Try.zeroValue9
 t28:=Try.underlying23
 a28:=Try.isAgg23
 z28:=Try.sizeOf23
 v28:=Try.zeroValue23
 t46:=Try.underlying107
 a46:=Try.isAgg107
 z46:=Try.sizeOf107
 v46:=Try.zeroValue107
 t51:=Try.underlying142
 a51:=Try.isAgg142
 z51:=Try.sizeOf142
 v51:=Try.zeroValue142
 t53:=Try.underlying144
 a53:=Try.isAgg144
 z53:=Try.sizeOf144
 v53:=Try.zeroValue144
 t131:=Try.underlying139
 a131:=Try.isAgg139
 z131:=Try.sizeOf139
 v131:=Try.zeroValue139
 t182:=Try.underlying134
 a182:=Try.isAgg134
 z182:=Try.sizeOf134
 v182:=Try.zeroValue134
 t183:=Try.underlying135
 a183:=Try.isAgg135
 z183:=Try.sizeOf135
 v183:=Try.zeroValue135
 t218:=Try.underlying153
 a218:=Try.isAgg153
 z218:=Try.sizeOf153
 v218:=Try.zeroValue153
 t222:=Try.underlying157
 a222:=Try.isAgg157
 z222:=Try.sizeOf157
 v222:=Try.zeroValue157
 t228:=Try.underlying162
 a228:=Try.isAgg162
 z228:=Try.sizeOf162
 v228:=Try.zeroValue162
 t229:=Try.underlying163
 a229:=Try.isAgg163
 z229:=Try.sizeOf163
 v229:=Try.zeroValue163 }
open Go.Sort Go.RowKit in
theorem Try.slices_Sort_int (blk off cap:Nat) (zs:List Int) (w:World) (hH:Holds (Value.int .i64) w blk off zs.toArray) (hblk:blk < w.heap.size) (hsz:zs.length < 4611686018427387904) :
  Calls Try.prog 57 #[.slice (some ⟨blk,off,none⟩) zs.length cap] w fun e w' =>
   e = .returned (.tuple #[]) ∧ ∃ n os,w' = grow (putRow (Value.int .i64) (Sort.ahead w n) blk off (zs.mergeSort fun x y=>decide (x <= y)).toArray) os:=Any.slices_Sort_int Try.lays189 blk off cap zs w hH hblk hsz
open Go.RowKit Go.Lib in
def Try.lays212_ren:Go.Shelf.Ren:=⟨fun | 212=>116 | 263=>118 | 264=>119 | n=>n,fun | 46=>107 | 51=>142 | 146=>165 | 53=>144 | 148=>167 | n=>n,fun | n=>n⟩
theorem Try.lays212:Go.Proofs.Lays.n212 Try.prog Try.lays212_ren:={
 mixed:=by kernel_rfl
 f212:=Try.func116.trans (congrArg some (by kernel_rfl))
 f263:=Try.func118.trans (congrArg some (by kernel_rfl))
 f264:=Try.func119.trans (congrArg some (by kernel_rfl))
 t46:=Try.underlying107
 a46:=Try.isAgg107
 z46:=Try.sizeOf107
 v46:=Try.zeroValue107
 t51:=Try.underlying142
 a51:=Try.isAgg142
 z51:=Try.sizeOf142
 v51:=Try.zeroValue142
 t53:=Try.underlying144
 a53:=Try.isAgg144
 z53:=Try.sizeOf144
 v53:=Try.zeroValue144
 t146:=Try.underlying165
 a146:=Try.isAgg165
 z146:=Try.sizeOf165
 v146:=Try.zeroValue165
 t148:=Try.underlying167
 a148:=Try.isAgg167
 z148:=Try.sizeOf167
 v148:=Try.zeroValue167 }
open Go.RowKit Go.Lib in
theorem Try.bits_Mul (x y:Nat) (hx:x < 18446744073709551616) (hy:y < 18446744073709551616) (w:World) :
  Calls Try.prog 116 #[.int .u64 x,.int .u64 y] w fun e w'=>e = .returned (.tuple #[.int .u64 ((x * y / 18446744073709551616:Nat):Int),.int .u64 ((x * y % 18446744073709551616:Nat):Int)]) ∧ w' = w:=Any.bits_Mul Try.lays212 x y hx hy w
def Try.laysNm220_ren:Go.Shelf.Ren:=⟨fun | 20=>58 | n=>n,fun | 22=>23 | 3=>3 | 4=>4 | 0=>0 | n=>n,fun | n=>n⟩
theorem Try.laysNm220:Go.Proofs.Lays2.n20 Try.prog Try.laysNm220_ren:={
 mixed:=by kernel_rfl
 f20:=Try.func58.trans (congrArg some (by kernel_rfl))
 t0:=Try.underlying0
 a0:=Try.isAgg0
 z0:=Try.sizeOf0
 v0:=Try.zeroValue0
 t3:=Try.underlying3
 a3:=Try.isAgg3
 z3:=Try.sizeOf3
 v3:=Try.zeroValue3
 t4:=Try.underlying4
 a4:=Try.isAgg4
 z4:=Try.sizeOf4
 v4:=Try.zeroValue4
 t22:=Try.underlying23
 a22:=Try.isAgg23
 z22:=Try.sizeOf23
 v22:=Try.zeroValue23
 i3:=by kernel_rfl }
open Go.RowKit Go.Lib Go.Sort in
open Go.RowKit Go.Lib Go.Sort in
theorem Try.slices_Compact_int (blk off cap:Nat) (zs:List Int) (w:World) (hH:Holds (Value.int .i64) w blk off zs.toArray) (hsz:zs.length <= 9223372036854775807) (hcap:zs.length <= cap) :
  Calls Try.prog 58 #[.slice (some ⟨blk,off,none⟩) zs.length cap] w fun e w'=>e = .returned (.slice (some ⟨blk,off,none⟩) (Lib.compact zs).length cap) ∧ ∃ q,w' = putRow (Value.int .i64) (Sort.ahead w q) blk off (Lib.compact zs ++ List.replicate (zs.length - (Lib.compact zs).length) 0).toArray:=Any.slices_Compact_int Try.laysNm220 blk off cap zs w hH hsz hcap
open Go.RowKit Go.Lib Go.Sort in
theorem Try.slices_Compact_int_empty (a:Option Addr) (cap:Nat) (w:World) :
  Calls Try.prog 58 #[.slice a 0 cap] w fun e w'=>e = .returned (.slice a 0 cap) ∧ w' = w:=Any.slices_Compact_int_empty Try.laysNm220 a cap w
open Go.RowKit Go.Sort in
theorem Try.slices_Sort_int_none (p:Option Addr) (cap:Nat) (w:World) :
  Calls Try.prog 57 #[.slice p 0 cap] w fun e w'=>e = .returned (.tuple #[]) ∧ w' = w:=Any.slices_Sort_int_none Try.lays189 p cap w
end Go.Proofs
