/-
  DERIVED: THE SHELF's CONTRACTS AT THIS DUMP, IN PLAIN WORDS (tools/lay-plain.mjs out of 'TryShelf.lean', which tools/lay-shelf.mjs wrote): THE SAME DECLARATIONS UNDER THE SAME NAMES: 'import', 'namespace', 'open', 'def', 'theorem' AND NOTHING ELSE: no command of the shelf's: FOR A HAND-IN. Each laying: the table of numbers ('.._ren') and one theorem, a field a fact of the dump's own or the kernel's comparison; each contract: ONE APPLICATION.
-/
import Derived.Shelf.Bits.Mul64
import Derived.Test.YtgipgbhlibafhaaChecked
namespace Go.Proofs
open Go.Shelf
open Go.RowKit Go.Lib in
def Try.lays212_ren:Go.Shelf.Ren:=⟨fun | 212=>127 | 263=>133 | 264=>134 | n=>n,fun | 46=>136 | 51=>158 | 146=>172 | 53=>160 | 148=>174 | n=>n,fun | n=>n⟩
theorem Try.lays212:Go.Proofs.Lays.n212 Try.prog Try.lays212_ren:={
 mixed:=by kernel_rfl
 f212:=Try.func127.trans (congrArg some (by kernel_rfl))
 f263:=Try.func133.trans (congrArg some (by kernel_rfl))
 f264:=Try.func134.trans (congrArg some (by kernel_rfl))
 t46:=Try.underlying136
 a46:=Try.isAgg136
 z46:=Try.sizeOf136
 v46:=Try.zeroValue136
 t51:=Try.underlying158
 a51:=Try.isAgg158
 z51:=Try.sizeOf158
 v51:=Try.zeroValue158
 t53:=Try.underlying160
 a53:=Try.isAgg160
 z53:=Try.sizeOf160
 v53:=Try.zeroValue160
 t146:=Try.underlying172
 a146:=Try.isAgg172
 z146:=Try.sizeOf172
 v146:=Try.zeroValue172
 t148:=Try.underlying174
 a148:=Try.isAgg174
 z148:=Try.sizeOf174
 v148:=Try.zeroValue174 }
open Go.RowKit Go.Lib in
theorem Try.bits_Mul (x y:Nat) (hx:x < 18446744073709551616) (hy:y < 18446744073709551616) (w:World) :
  Calls Try.prog 127 #[.int .u64 x,.int .u64 y] w fun e w'=>e = .returned (.tuple #[.int .u64 ((x * y / 18446744073709551616:Nat):Int),.int .u64 ((x * y % 18446744073709551616:Nat):Int)]) ∧ w' = w:=Any.bits_Mul Try.lays212 x y hx hy w
end Go.Proofs
