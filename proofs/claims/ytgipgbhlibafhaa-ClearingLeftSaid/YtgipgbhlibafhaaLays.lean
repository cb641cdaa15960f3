/-
  DERIVED: THE SHELF's CONTRACTS AT THIS DUMP, IN PLAIN WORDS (tools/lay-plain.mjs out of 'TryShelf.lean', which tools/lay-shelf.mjs wrote): THE SAME DECLARATIONS UNDER THE SAME NAMES: 'import', 'namespace', 'open', 'def', 'theorem' AND NOTHING ELSE: no command of the shelf's: FOR A HAND-IN. Each laying: the table of numbers ('.._ren') and one theorem, a field a fact of the dump's own or the kernel's comparison; each contract: ONE APPLICATION.
-/
import Derived.Shelf.Sort.Plain
import Derived.Shelf.Bits.Mul64
import Derived.Ground.Names2Prog
import Derived.Shelf.Slices.CompactI
import Derived.Shelf.Slices.In.SortNone
import Derived.Test.YtgipgbhlibafhaaChecked
namespace Go.Proofs
open Go.Shelf
def Try.lays189_ren:Go.Shelf.Ren:=⟨fun | 189=>80 | 125=>106 | 257=>105 | 128=>123 | 129=>124 | 294=>115 | 295=>116 | 296=>117 | 297=>118 | 298=>119 | 299=>120 | 216=>92 | 300=>121 | 301=>122 | 328=>128 | 329=>129 | 330=>130 | 331=>131 | 332=>132 | 215=>113 | 343=>135 | n=>n,fun | 28=>23 | 3=>3 | 46=>136 | 0=>0 | 51=>158 | 53=>160 | 4=>4 | 183=>151 | 182=>150 | 131=>155 | 5=>5 | 9=>9 | 218=>166 | 222=>170 | 228=>176 | 229=>177 | n=>n,fun | n=>n⟩
theorem Try.lays189:Go.Proofs.Lays.n189 Try.prog Try.lays189_ren:={
 mixed:=by kernel_rfl
 f125:=Try.func106.trans (congrArg some (by kernel_rfl))
 f128:=Try.func123.trans (congrArg some (by kernel_rfl))
 f129:=Try.func124.trans (congrArg some (by kernel_rfl))
 f189:=Try.func80.trans (congrArg some (by kernel_rfl))
 f215:=Try.func113.trans (congrArg some (by kernel_rfl))
 f216:=Try.func92.trans (congrArg some (by kernel_rfl))
 f257:=Try.func105.trans (congrArg some (by kernel_rfl))
 f294:=Try.func115.trans (congrArg some (by kernel_rfl))
 f295:=Try.func116.trans (congrArg some (by kernel_rfl))
 f296:=Try.func117.trans (congrArg some (by kernel_rfl))
 f297:=Try.func118.trans (congrArg some (by kernel_rfl))
 f298:=Try.func119.trans (congrArg some (by kernel_rfl))
 f299:=Try.func120.trans (congrArg some (by kernel_rfl))
 f300:=Try.func121.trans (congrArg some (by kernel_rfl))
 f301:=Try.func122.trans (congrArg some (by kernel_rfl))
 f328:=Try.func128.trans (congrArg some (by kernel_rfl))
 f329:=Try.func129.trans (congrArg some (by kernel_rfl))
 f330:=Try.func130.trans (congrArg some (by kernel_rfl))
 f331:=Try.func131.trans (congrArg some (by kernel_rfl))
 f332:=Try.func132.trans (congrArg some (by kernel_rfl))
 f343:=Try.func135.trans (congrArg some (by kernel_rfl))
 t0:=Try.underlying0
 a0:=Try.isAgg0
 z0:=Try.sizeOf0
 v0:=Try.zeroValue0
 t3:=Try.underlying3
 a3:=Try.isAgg3
 z3:=Try.sizeOf3
 v3:=Try.zeroValue3
 t4:=Try.underlying4
 a4:=Try.isAgg4
 z4:=Try.sizeOf4
 v4:=Try.zeroValue4
 t5:=Try.underlying5
 a5:=Try.isAgg5
 z5:=Try.sizeOf5
 v5:=Try.zeroValue5
 t9:=Try.underlying9
 a9:=Try.isAgg9
 z9:=Try.sizeOf9
 v9:=Try.zeroValue9
 t28:=Try.underlying23
 a28:=Try.isAgg23
 z28:=Try.sizeOf23
 v28:=Try.zeroValue23
 t46:=Try.underlying136
 a46:=Try.isAgg136
 z46:=Try.sizeOf136
 v46:=Try.zeroValue136
 t51:=Try.underlying158
 a51:=Try.isAgg158
 z51:=Try.sizeOf158
 v51:=Try.zeroValue158
 t53:=Try.underlying160
 a53:=Try.isAgg160
 z53:=Try.sizeOf160
 v53:=Try.zeroValue160
 t131:=Try.underlying155
 a131:=Try.isAgg155
 z131:=Try.sizeOf155
 v131:=Try.zeroValue155
 t182:=Try.underlying150
 a182:=Try.isAgg150
 z182:=Try.sizeOf150
 v182:=Try.zeroValue150
 t183:=Try.underlying151
 a183:=Try.isAgg151
 z183:=Try.sizeOf151
 v183:=Try.zeroValue151
 t218:=Try.underlying166
 a218:=Try.isAgg166
 z218:=Try.sizeOf166
 v218:=Try.zeroValue166
 t222:=Try.underlying170
 a222:=Try.isAgg170
 z222:=Try.sizeOf170
 v222:=Try.zeroValue170
 t228:=Try.underlying176
 a228:=Try.isAgg176
 z228:=Try.sizeOf176
 v228:=Try.zeroValue176
 t229:=Try.underlying177
 a229:=Try.isAgg177
 z229:=Try.sizeOf177
 v229:=Try.zeroValue177 }
open Go.Sort Go.RowKit in
theorem Try.slices_Sort_int (blk off cap:Nat) (zs:List Int) (w:World) (hH:Holds (Value.int .i64) w blk off zs.toArray) (hblk:blk < w.heap.size) (hsz:zs.length < 4611686018427387904) :
  Calls Try.prog 80 #[.slice (some ⟨blk,off,none⟩) zs.length cap] w fun e w' =>
   e = .returned (.tuple #[]) ∧ ∃ n os,w' = grow (putRow (Value.int .i64) (Sort.ahead w n) blk off (zs.mergeSort fun x y=>decide (x ≤ y)).toArray) os:=Any.slices_Sort_int Try.lays189 blk off cap zs w hH hblk hsz
open Go.RowKit Go.Lib in
def Try.lays212_ren:Go.Shelf.Ren:=⟨fun | 212=>127 | 263=>133 | 264=>134 | n=>n,fun | 46=>136 | 51=>158 | 146=>172 | 53=>160 | 148=>174 | n=>n,fun | n=>n⟩
theorem Try.lays212:Go.Proofs.Lays.n212 Try.prog Try.lays212_ren:={
 mixed:=by kernel_rfl
 f212:=Try.func127.trans (congrArg some (by kernel_rfl))
 f263:=Try.func133.trans (congrArg some (by kernel_rfl))
 f264:=Try.func134.trans (congrArg some (by kernel_rfl))
 t46:=Try.underlying136
 a46:=Try.isAgg136
 z46:=Try.sizeOf136
 v46:=Try.zeroValue136
 t51:=Try.underlying158
 a51:=Try.isAgg158
 z51:=Try.sizeOf158
 v51:=Try.zeroValue158
 t53:=Try.underlying160
 a53:=Try.isAgg160
 z53:=Try.sizeOf160
 v53:=Try.zeroValue160
 t146:=Try.underlying172
 a146:=Try.isAgg172
 z146:=Try.sizeOf172
 v146:=Try.zeroValue172
 t148:=Try.underlying174
 a148:=Try.isAgg174
 z148:=Try.sizeOf174
 v148:=Try.zeroValue174 }
open Go.RowKit Go.Lib in
theorem Try.bits_Mul (x y:Nat) (hx:x < 18446744073709551616) (hy:y < 18446744073709551616) (w:World) :
  Calls Try.prog 127 #[.int .u64 x,.int .u64 y] w fun e w'=>e = .returned (.tuple #[.int .u64 ((x * y / 18446744073709551616:Nat):Int),.int .u64 ((x * y % 18446744073709551616:Nat):Int)]) ∧ w' = w:=Any.bits_Mul Try.lays212 x y hx hy w
def Try.laysNm220_ren:Go.Shelf.Ren:=⟨fun | 20=>81 | n=>n,fun | 22=>23 | 3=>3 | 4=>4 | 0=>0 | n=>n,fun | n=>n⟩
theorem Try.laysNm220:Go.Proofs.Lays2.n20 Try.prog Try.laysNm220_ren:={
 mixed:=by kernel_rfl
 f20:=Try.func81.trans (congrArg some (by kernel_rfl))
 t0:=Try.underlying0
 a0:=Try.isAgg0
 z0:=Try.sizeOf0
 v0:=Try.zeroValue0
 t3:=Try.underlying3
 a3:=Try.isAgg3
 z3:=Try.sizeOf3
 v3:=Try.zeroValue3
 t4:=Try.underlying4
 a4:=Try.isAgg4
 z4:=Try.sizeOf4
 v4:=Try.zeroValue4
 t22:=Try.underlying23
 a22:=Try.isAgg23
 z22:=Try.sizeOf23
 v22:=Try.zeroValue23
 i3:=by kernel_rfl }
open Go.RowKit Go.Lib Go.Sort in
open Go.RowKit Go.Lib Go.Sort in
theorem Try.slices_Compact_int (blk off cap:Nat) (zs:List Int) (w:World) (hH:Holds (Value.int .i64) w blk off zs.toArray) (hsz:zs.length ≤ 9223372036854775807) (hcap:zs.length ≤ cap) :
  Calls Try.prog 81 #[.slice (some ⟨blk,off,none⟩) zs.length cap] w fun e w'=>e = .returned (.slice (some ⟨blk,off,none⟩) (Lib.compact zs).length cap) ∧ ∃ q,w' = putRow (Value.int .i64) (Sort.ahead w q) blk off (Lib.compact zs ++ List.replicate (zs.length - (Lib.compact zs).length) 0).toArray:=Any.slices_Compact_int Try.laysNm220 blk off cap zs w hH hsz hcap
open Go.RowKit Go.Lib Go.Sort in
theorem Try.slices_Compact_int_empty (a:Option Addr) (cap:Nat) (w:World) :
  Calls Try.prog 81 #[.slice a 0 cap] w fun e w'=>e = .returned (.slice a 0 cap) ∧ w' = w:=Any.slices_Compact_int_empty Try.laysNm220 a cap w
open Go.RowKit Go.Sort in
theorem Try.slices_Sort_int_none (p:Option Addr) (cap:Nat) (w:World) :
  Calls Try.prog 80 #[.slice p 0 cap] w fun e w'=>e = .returned (.tuple #[]) ∧ w' = w:=Any.slices_Sort_int_none Try.lays189 p cap w
end Go.Proofs
