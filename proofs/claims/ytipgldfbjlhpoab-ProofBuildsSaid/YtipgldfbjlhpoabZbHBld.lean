/- strings.Builder: the contracts of WriteString and String at this program. -/
import Derived.Shelf.Strings.Builder1
import Derived.Test.YtipgldfbjlhpoabProg
namespace Go.Proofs.Ytipgldfbjlhpoab.P
open Go.Shelf
def wsR : Go.Shelf.Ren := ⟨fun | 166 => 99 | 240 => 149 | 276 => 172 | n => n, fun | 70 => 141 | 72 => 144 | 37 => 142 | 20 => 20 | 75 => 147 | 80 => 110 | 164 => 223 | n => n, fun n => n⟩
theorem wsX : Go.Proofs.Builder.Extra Try.prog wsR := {
 sizeBuilder := by kernel_rfl
 liesBuilder := by kernel_rfl
 t5 := Try.underlying5
 a5 := Try.isAgg5
 z5 := Try.sizeOf5
 v5 := Try.zeroValue5
 infoByte := by kernel_rfl
 cellsByte := by kernel_rfl
 sizeByte := by kernel_rfl
 neB5 := by decide }
end Go.Proofs.Ytipgldfbjlhpoab.P
