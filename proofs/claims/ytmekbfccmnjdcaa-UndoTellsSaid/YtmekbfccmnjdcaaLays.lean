/-
  DERIVED: THE SHELF's CONTRACTS AT THIS DUMP, IN PLAIN WORDS (tools/lay-plain.mjs out of 'TryShelf.lean', which tools/lay-shelf.mjs wrote): THE SAME DECLARATIONS UNDER THE SAME NAMES: 'import', 'namespace', 'open', 'def', 'theorem' AND NOTHING ELSE: no command of the shelf's: FOR A HAND-IN. Each laying: the table of numbers ('.._ren') and one theorem, a field a fact of the dump's own or the kernel's comparison; each contract: ONE APPLICATION.
-/
import Derived.Shelf.SlIterI.Nil
import Derived.Ground.GgzProg
import Derived.Shelf.Sort.Plain
import Derived.Ground.Names2Prog
import Derived.Shelf.Slices.CompactI
import Derived.Shelf.Slices.In.SortNone
import Derived.Test.YtmekbfccmnjdcaaChecked
namespace Go.Proofs
open Go.Shelf
def Try.lays189_ren:Go.Shelf.Ren:=⟨fun | 189=>80 | 125=>115 | 257=>114 | 128=>138 | 129=>139 | 294=>129 | 295=>130 | 296=>131 | 297=>132 | 298=>133 | 299=>134 | 216=>135 | 300=>136 | 301=>137 | 328=>147 | 329=>148 | 330=>149 | 331=>150 | 332=>151 | 215=>152 | 343=>155 | n=>n,fun | 28=>24 | 3=>3 | 46=>147 | 0=>0 | 51=>168 | 53=>170 | 4=>4 | 183=>163 | 182=>162 | 131=>136 | 5=>5 | 9=>9 | 218=>176 | 222=>180 | 228=>185 | 229=>186 | n=>n,fun | n=>n⟩
theorem Try.lays189:Go.Proofs.Lays.n189 Try.prog Try.lays189_ren:={
 mixed:=by kernel_rfl
 f125:=Try.func115.trans (congrArg some (by kernel_rfl))
 f128:=Try.func138.trans (congrArg some (by kernel_rfl))
 f129:=Try.func139.trans (congrArg some (by kernel_rfl))
 f189:=Try.func80.trans (congrArg some (by kernel_rfl))
 f215:=Try.func152.trans (congrArg some (by kernel_rfl))
 f216:=Try.func135.trans (congrArg some (by kernel_rfl))
 f257:=Try.func114.trans (congrArg some (by kernel_rfl))
 f294:=Try.func129.trans (congrArg some (by kernel_rfl))
 f295:=Try.func130.trans (congrArg some (by kernel_rfl))
 f296:=Try.func131.trans (congrArg some (by kernel_rfl))
 f297:=Try.func132.trans (congrArg some (by kernel_rfl))
 f298:=Try.func133.trans (congrArg some (by kernel_rfl))
 f299:=Try.func134.trans (congrArg some (by kernel_rfl))
 f300:=Try.func136.trans (congrArg some (by kernel_rfl))
 f301:=Try.func137.trans (congrArg some (by kernel_rfl))
 f328:=Try.func147.trans (congrArg some (by kernel_rfl))
 f329:=Try.func148.trans (congrArg some (by kernel_rfl))
 f330:=Try.func149.trans (congrArg some (by kernel_rfl))
 f331:=Try.func150.trans (congrArg some (by kernel_rfl))
 f332:=Try.func151.trans (congrArg some (by kernel_rfl))
 f343:=Try.func155.trans (congrArg some (by kernel_rfl))
 t0:=Try.underlying0
 a0:=Try.isAgg0
 z0:=Try.sizeOf0
 v0:=Try.zeroValue0
 t3:=Try.underlying3
 a3:=Try.isAgg3
 z3:=Try.sizeOf3
 v3:=Try.zeroValue3
 t4:=Try.underlying4
 a4:=Try.isAgg4
 z4:=Try.sizeOf4
 v4:=Try.zeroValue4
 t5:=Try.underlying5
 a5:=Try.isAgg5
 z5:=Try.sizeOf5
 v5:=Try.zeroValue5
 t9:=Try.underlying9
 a9:=Try.isAgg9
 z9:=Try.sizeOf9
 v9:=Try.zeroValue9
 t28:=Try.underlying24
 a28:=Try.isAgg24
 z28:=Try.sizeOf24
 v28:=Try.zeroValue24
 t46:=Try.underlying147
 a46:=Try.isAgg147
 z46:=Try.sizeOf147
 v46:=Try.zeroValue147
 t51:=Try.underlying168
 a51:=Try.isAgg168
 z51:=Try.sizeOf168
 v51:=Try.zeroValue168
 t53:=Try.underlying170
 a53:=Try.isAgg170
 z53:=Try.sizeOf170
 v53:=Try.zeroValue170
 t131:=Try.underlying136
 a131:=Try.isAgg136
 z131:=Try.sizeOf136
 v131:=Try.zeroValue136
 t182:=Try.underlying162
 a182:=Try.isAgg162
 z182:=Try.sizeOf162
 v182:=Try.zeroValue162
 t183:=Try.underlying163
 a183:=Try.isAgg163
 z183:=Try.sizeOf163
 v183:=Try.zeroValue163
 t218:=Try.underlying176
 a218:=Try.isAgg176
 z218:=Try.sizeOf176
 v218:=Try.zeroValue176
 t222:=Try.underlying180
 a222:=Try.isAgg180
 z222:=Try.sizeOf180
 v222:=Try.zeroValue180
 t228:=Try.underlying185
 a228:=Try.isAgg185
 z228:=Try.sizeOf185
 v228:=Try.zeroValue185
 t229:=Try.underlying186
 a229:=Try.isAgg186
 z229:=Try.sizeOf186
 v229:=Try.zeroValue186 }
open Go.Sort Go.RowKit in
theorem Try.slices_Sort_int (blk off cap:Nat) (zs:List Int) (w:World) (hH:Holds (Value.int .i64) w blk off zs.toArray) (hblk:blk < w.heap.size) (hsz:zs.length < 4611686018427387904) :
  Calls Try.prog 80 #[.slice (some ⟨blk,off,none⟩) zs.length cap] w fun e w' =>
   e = .returned (.tuple #[]) ∧ ∃ n os,w' = grow (putRow (Value.int .i64) (Sort.ahead w n) blk off (zs.mergeSort fun x y=>decide (x ≤ y)).toArray) os:=Any.slices_Sort_int Try.lays189 blk off cap zs w hH hblk hsz
open Go.RowKit Go.Lib Go.Sort in
open Go.RowKit Go.Lib Go.Sort in
open Go.RowKit Go.Lib Go.Sort in
open Go.RowKit Go.Sort in
theorem Try.slices_Sort_int_none (p:Option Addr) (cap:Nat) (w:World) :
  Calls Try.prog 80 #[.slice p 0 cap] w fun e w'=>e = .returned (.tuple #[]) ∧ w' = w:=Any.slices_Sort_int_none Try.lays189 p cap w
def Try.keysA_ren:Go.Shelf.Ren:=⟨fun | 7=>72 | 10=>111 | n=>n,fun | 23=>77 | 26=>3 | 3=>4 | 28=>113 | 0=>0 | 27=>112 | 33=>116 | 4=>4 | n=>n,fun | n=>n⟩
theorem Try.keysA:Go.Proofs.SlLaysZI.n7 Try.prog Try.keysA_ren:={
 mixed:=by kernel_rfl
 f7:=⟨Try.f72.name,by decide,Try.func72.trans (congrArg some (by kernel_rfl))⟩
 f10:=⟨Try.f111.name,by decide,Try.func111.trans (congrArg some (by kernel_rfl))⟩
 t0:=Try.underlying0
 a0:=Try.isAgg0
 z0:=Try.sizeOf0
 v0:=Try.zeroValue0
 t4:=Try.underlying4
 a4:=Try.isAgg4
 z4:=Try.sizeOf4
 v4:=Try.zeroValue4
 t23:=Try.underlying77
 a23:=Try.isAgg77
 z23:=Try.sizeOf77
 v23:=Try.zeroValue77
 t26:=Try.underlying3
 a26:=Try.isAgg3
 z26:=Try.sizeOf3
 v26:=Try.zeroValue3
 t27:=Try.underlying112
 a27:=Try.isAgg112
 z27:=Try.sizeOf112
 v27:=Try.zeroValue112
 t28:=Try.underlying113
 a28:=Try.isAgg113
 z28:=Try.sizeOf113
 v28:=Try.zeroValue113
 t33:=Try.underlying116
 a33:=Try.isAgg116
 z33:=Try.sizeOf116
 v33:=Try.zeroValue116 }
def Try.sortedA_ren:Go.Shelf.Ren:=⟨fun | 6=>71 | 8=>110 | 9=>80 | 11=>128 | 13=>115 | 12=>114 | 23=>138 | 24=>139 | 14=>129 | 15=>130 | 16=>131 | 17=>132 | 18=>133 | 19=>134 | 20=>135 | 21=>136 | 22=>137 | 25=>147 | 26=>148 | 27=>149 | 28=>150 | 29=>151 | 30=>152 | 31=>155 | n=>n,fun | 26=>3 | 28=>113 | 24=>24 | 0=>0 | 3=>3 | 37=>147 | 48=>168 | 50=>170 | 4=>4 | 40=>163 | 39=>162 | 45=>136 | 5=>5 | 9=>9 | 51=>176 | 55=>180 | 57=>185 | 58=>186 | 33=>116 | n=>n,fun | n=>n⟩
theorem Try.sortedA:Go.Proofs.SlLaysZI.n6 Try.prog Try.sortedA_ren:={
 mixed:=by kernel_rfl
 f6:=⟨Try.f71.name,by decide,Try.func71.trans (congrArg some (by kernel_rfl))⟩
 f8:=⟨Try.f110.name,by decide,Try.func110.trans (congrArg some (by kernel_rfl))⟩
 f11:=⟨Try.f128.name,by decide,Try.func128.trans (congrArg some (by kernel_rfl))⟩
 t0:=Try.underlying0
 a0:=Try.isAgg0
 z0:=Try.sizeOf0
 v0:=Try.zeroValue0
 t24:=Try.underlying24
 a24:=Try.isAgg24
 z24:=Try.sizeOf24
 v24:=Try.zeroValue24
 t26:=Try.underlying3
 a26:=Try.isAgg3
 z26:=Try.sizeOf3
 v26:=Try.zeroValue3
 t28:=Try.underlying113
 a28:=Try.isAgg113
 z28:=Try.sizeOf113
 v28:=Try.zeroValue113
 i26:=by kernel_rfl }
end Go.Proofs
