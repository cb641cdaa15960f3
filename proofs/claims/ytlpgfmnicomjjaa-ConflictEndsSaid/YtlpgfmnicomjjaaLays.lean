/-
  DERIVED: THE SHELF's CONTRACTS AT THIS DUMP, IN PLAIN WORDS (tools/lay-plain.mjs out of 'TryShelf.lean', which tools/lay-shelf.mjs wrote): THE SAME DECLARATIONS UNDER THE SAME NAMES: 'import', 'namespace', 'open', 'def', 'theorem' AND NOTHING ELSE: no command of the shelf's: FOR A HAND-IN. Each laying: the table of numbers ('.._ren') and one theorem, a field a fact of the dump's own or the kernel's comparison; each contract: ONE APPLICATION.
-/
import Derived.Shelf.Sort.Plain
import Derived.Ground.Names2Prog
import Derived.Shelf.Slices.CompactI
import Derived.Shelf.Slices.In.SortNone
import Derived.Test.YtlpgfmnicomjjaaChecked
namespace Go.Proofs
open Go.Shelf
def Try.lays189_ren:Go.Shelf.Ren:=⟨fun | 189=>90 | 125=>106 | 257=>105 | 128=>124 | 129=>125 | 294=>115 | 295=>116 | 296=>117 | 297=>118 | 298=>119 | 299=>120 | 216=>121 | 300=>122 | 301=>123 | 328=>129 | 329=>130 | 330=>131 | 331=>132 | 332=>133 | 215=>127 | 343=>134 | n=>n,fun | 28=>32 | 3=>3 | 46=>135 | 0=>0 | 51=>149 | 53=>151 | 4=>4 | 183=>144 | 182=>143 | 131=>75 | 5=>5 | 9=>9 | 218=>155 | 222=>159 | 228=>161 | 229=>162 | n=>n,fun | n=>n⟩
theorem Try.lays189:Go.Proofs.Lays.n189 Try.prog Try.lays189_ren:={
 mixed:=by kernel_rfl
 f125:=Try.func106.trans (congrArg some (by kernel_rfl))
 f128:=Try.func124.trans (congrArg some (by kernel_rfl))
 f129:=Try.func125.trans (congrArg some (by kernel_rfl))
 f189:=Try.func90.trans (congrArg some (by kernel_rfl))
 f215:=Try.func127.trans (congrArg some (by kernel_rfl))
 f216:=Try.func121.trans (congrArg some (by kernel_rfl))
 f257:=Try.func105.trans (congrArg some (by kernel_rfl))
 f294:=Try.func115.trans (congrArg some (by kernel_rfl))
 f295:=Try.func116.trans (congrArg some (by kernel_rfl))
 f296:=Try.func117.trans (congrArg some (by kernel_rfl))
 f297:=Try.func118.trans (congrArg some (by kernel_rfl))
 f298:=Try.func119.trans (congrArg some (by kernel_rfl))
 f299:=Try.func120.trans (congrArg some (by kernel_rfl))
 f300:=Try.func122.trans (congrArg some (by kernel_rfl))
 f301:=Try.func123.trans (congrArg some (by kernel_rfl))
 f328:=Try.func129.trans (congrArg some (by kernel_rfl))
 f329:=Try.func130.trans (congrArg some (by kernel_rfl))
 f330:=Try.func131.trans (congrArg some (by kernel_rfl))
 f331:=Try.func132.trans (congrArg some (by kernel_rfl))
 f332:=Try.func133.trans (congrArg some (by kernel_rfl))
 f343:=Try.func134.trans (congrArg some (by kernel_rfl))
 t0:=Try.underlying0
 a0:=Try.isAgg0
 z0:=Try.sizeOf0
 v0:=Try.zeroValue0
 t3:=Try.underlying3
 a3:=Try.isAgg3
 z3:=Try.sizeOf3
 v3:=Try.zeroValue3
 t4:=Try.underlying4
 a4:=Try.isAgg4
 z4:=Try.sizeOf4
 v4:=Try.zeroValue4
 t5:=Try.underlying5
 a5:=Try.isAgg5
 z5:=Try.sizeOf5
 v5:=Try.zeroValue5
 t9:=Try.underlying9
 a9:=Try.isAgg9
 z9:=Try.sizeOf9
 v9:=Try.zeroValue9
 t28:=Try.underlying32
 a28:=Try.isAgg32
 z28:=Try.sizeOf32
 v28:=Try.zeroValue32
 t46:=Try.underlying135
 a46:=Try.isAgg135
 z46:=Try.sizeOf135
 v46:=Try.zeroValue135
 t51:=Try.underlying149
 a51:=Try.isAgg149
 z51:=Try.sizeOf149
 v51:=Try.zeroValue149
 t53:=Try.underlying151
 a53:=Try.isAgg151
 z53:=Try.sizeOf151
 v53:=Try.zeroValue151
 t131:=Try.underlying75
 a131:=Try.isAgg75
 z131:=Try.sizeOf75
 v131:=Try.zeroValue75
 t182:=Try.underlying143
 a182:=Try.isAgg143
 z182:=Try.sizeOf143
 v182:=Try.zeroValue143
 t183:=Try.underlying144
 a183:=Try.isAgg144
 z183:=Try.sizeOf144
 v183:=Try.zeroValue144
 t218:=Try.underlying155
 a218:=Try.isAgg155
 z218:=Try.sizeOf155
 v218:=Try.zeroValue155
 t222:=Try.underlying159
 a222:=Try.isAgg159
 z222:=Try.sizeOf159
 v222:=Try.zeroValue159
 t228:=Try.underlying161
 a228:=Try.isAgg161
 z228:=Try.sizeOf161
 v228:=Try.zeroValue161
 t229:=Try.underlying162
 a229:=Try.isAgg162
 z229:=Try.sizeOf162
 v229:=Try.zeroValue162 }
open Go.Sort Go.RowKit in
theorem Try.slices_Sort_int (blk off cap:Nat) (zs:List Int) (w:World) (hH:Holds (Value.int .i64) w blk off zs.toArray) (hblk:blk < w.heap.size) (hsz:zs.length < 4611686018427387904) :
  Calls Try.prog 90 #[.slice (some ⟨blk,off,none⟩) zs.length cap] w fun e w' =>
   e = .returned (.tuple #[]) ∧ ∃ n os,w' = grow (putRow (Value.int .i64) (Sort.ahead w n) blk off (zs.mergeSort fun x y=>decide (x ≤ y)).toArray) os:=Any.slices_Sort_int Try.lays189 blk off cap zs w hH hblk hsz
def Try.laysNm220_ren:Go.Shelf.Ren:=⟨fun | 20=>91 | n=>n,fun | 22=>32 | 3=>3 | 4=>4 | 0=>0 | n=>n,fun | n=>n⟩
theorem Try.laysNm220:Go.Proofs.Lays2.n20 Try.prog Try.laysNm220_ren:={
 mixed:=by kernel_rfl
 f20:=Try.func91.trans (congrArg some (by kernel_rfl))
 t0:=Try.underlying0
 a0:=Try.isAgg0
 z0:=Try.sizeOf0
 v0:=Try.zeroValue0
 t3:=Try.underlying3
 a3:=Try.isAgg3
 z3:=Try.sizeOf3
 v3:=Try.zeroValue3
 t4:=Try.underlying4
 a4:=Try.isAgg4
 z4:=Try.sizeOf4
 v4:=Try.zeroValue4
 t22:=Try.underlying32
 a22:=Try.isAgg32
 z22:=Try.sizeOf32
 v22:=Try.zeroValue32
 i3:=by kernel_rfl }
open Go.RowKit Go.Lib Go.Sort in
open Go.RowKit Go.Lib Go.Sort in
theorem Try.slices_Compact_int (blk off cap:Nat) (zs:List Int) (w:World) (hH:Holds (Value.int .i64) w blk off zs.toArray) (hsz:zs.length ≤ 9223372036854775807) (hcap:zs.length ≤ cap) :
  Calls Try.prog 91 #[.slice (some ⟨blk,off,none⟩) zs.length cap] w fun e w'=>e = .returned (.slice (some ⟨blk,off,none⟩) (Lib.compact zs).length cap) ∧ ∃ q,w' = putRow (Value.int .i64) (Sort.ahead w q) blk off (Lib.compact zs ++ List.replicate (zs.length - (Lib.compact zs).length) 0).toArray:=Any.slices_Compact_int Try.laysNm220 blk off cap zs w hH hsz hcap
open Go.RowKit Go.Lib Go.Sort in
theorem Try.slices_Compact_int_empty (a:Option Addr) (cap:Nat) (w:World) :
  Calls Try.prog 91 #[.slice a 0 cap] w fun e w'=>e = .returned (.slice a 0 cap) ∧ w' = w:=Any.slices_Compact_int_empty Try.laysNm220 a cap w
open Go.RowKit Go.Sort in
theorem Try.slices_Sort_int_none (p:Option Addr) (cap:Nat) (w:World) :
  Calls Try.prog 90 #[.slice p 0 cap] w fun e w'=>e = .returned (.tuple #[]) ∧ w' = w:=Any.slices_Sort_int_none Try.lays189 p cap w
end Go.Proofs
