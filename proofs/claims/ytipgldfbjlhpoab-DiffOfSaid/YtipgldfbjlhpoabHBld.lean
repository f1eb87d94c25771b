/- strings.Builder: the contracts of WriteString and String at this program. -/
import Derived.Shelf.Strings.Builder1
import Derived.Test.YtipgldfbjlhpoabProg
namespace Go.Proofs.Ytipgldfbjlhpoab.P
open Go.Shelf
def wsR : Go.Shelf.Ren := ⟨fun | 166 => 99 | 240 => 149 | 276 => 172 | n => n, fun | 70 => 141 | 72 => 144 | 37 => 142 | 20 => 20 | 75 => 147 | 80 => 110 | 164 => 223 | n => n, fun n => n⟩
theorem wsL : Go.Proofs.Lays.n166 Try.prog wsR := {
  mixed := by kernel_rfl
  f166 := Try.func99.trans (congrArg some (by kernel_rfl))
  f240 := Try.func149.trans (congrArg some (by kernel_rfl))
  f276 := Try.func172.trans (congrArg some (by kernel_rfl))
  t0 := Try.underlying0
  a0 := Try.isAgg0
  z0 := Try.sizeOf0
  v0 := Try.zeroValue0
  t3 := Try.underlying3
  a3 := Try.isAgg3
  z3 := Try.sizeOf3
  v3 := Try.zeroValue3
  t4 := Try.underlying4
  a4 := Try.isAgg4
  z4 := Try.sizeOf4
  v4 := Try.zeroValue4
  t9 := Try.underlying9
  a9 := Try.isAgg9
  z9 := Try.sizeOf9
  v9 := Try.zeroValue9
  t20 := Try.underlying20
  a20 := Try.isAgg20
  z20 := Try.sizeOf20
  v20 := Try.zeroValue20
  t37 := Try.underlying142
  a37 := Try.isAgg142
  z37 := Try.sizeOf142
  v37 := Try.zeroValue142
  t70 := Try.underlying141
  a70 := Try.isAgg141
  z70 := Try.sizeOf141
  v70 := Try.zeroValue141
  t72 := Try.underlying144
  a72 := Try.isAgg144
  z72 := Try.sizeOf144
  v72 := Try.zeroValue144
  t75 := Try.underlying147
  a75 := Try.isAgg147
  z75 := Try.sizeOf147
  v75 := Try.zeroValue147
  t164 := Try.underlying223
  a164 := Try.isAgg223
  z164 := Try.sizeOf223
  v164 := Try.zeroValue223 }
theorem wsX : Go.Proofs.Builder.Extra Try.prog wsR := {
  sizeBuilder := by kernel_rfl
  liesBuilder := by kernel_rfl
  t5 := Try.underlying5
  a5 := Try.isAgg5
  z5 := Try.sizeOf5
  v5 := Try.zeroValue5
  infoByte := by kernel_rfl
  cellsByte := by kernel_rfl
  sizeByte := by kernel_rfl
  neB5 := by decide }
open Go.RowKit in
theorem builder_WriteString (B b : Nat) (bs : List Value) (s : ByteArray) (w : World) (h : Lib.IsBuilder 144 5 B b bs w) (hlen : bs.length + s.size ≤ 140737488355328) (hBw : B ≤ w.heap.size) :
    Calls Try.prog 99 #[.pointer (some ⟨b, 0, none⟩), .string s] w fun e w' => e = .returned (.tuple #[.int .i64 s.size, .nilIface]) ∧ (Lib.BuilderAt 144 5 B b (.pointer (some ⟨b, 0, none⟩)) (bs ++ Lib.strCells s) w' ∧ Below B w w') := Go.Proofs.Any.Builder_WriteString wsL wsX B b bs s w h hlen hBw
def wrR : Go.Shelf.Ren := ⟨fun | 169 => 101 | n => n, fun | 70 => 141 | 72 => 144 | 37 => 142 | 127 => 204 | n => n, fun | n => n⟩
theorem wrL : Go.Proofs.Lays.n169 Try.prog wrR := {
  mixed := by kernel_rfl
  f169 := Try.func101.trans (congrArg some (by kernel_rfl))
  t0 := Try.underlying0
  a0 := Try.isAgg0
  z0 := Try.sizeOf0
  v0 := Try.zeroValue0
  t3 := Try.underlying3
  a3 := Try.isAgg3
  z3 := Try.sizeOf3
  v3 := Try.zeroValue3
  t9 := Try.underlying9
  a9 := Try.isAgg9
  z9 := Try.sizeOf9
  v9 := Try.zeroValue9
  t37 := Try.underlying142
  a37 := Try.isAgg142
  z37 := Try.sizeOf142
  v37 := Try.zeroValue142
  t70 := Try.underlying141
  a70 := Try.isAgg141
  z70 := Try.sizeOf141
  v70 := Try.zeroValue141
  t72 := Try.underlying144
  a72 := Try.isAgg144
  z72 := Try.sizeOf144
  v72 := Try.zeroValue144
  t127 := Try.underlying204
  a127 := Try.isAgg204
  z127 := Try.sizeOf204
  v127 := Try.zeroValue204 }
theorem wrX : Go.Proofs.Builder.Extra Try.prog wrR := {
  sizeBuilder := by kernel_rfl
  liesBuilder := by kernel_rfl
  t5 := Try.underlying5
  a5 := Try.isAgg5
  z5 := Try.sizeOf5
  v5 := Try.zeroValue5
  infoByte := by kernel_rfl
  cellsByte := by kernel_rfl
  sizeByte := by kernel_rfl
  neB5 := by decide }
open Go.RowKit in
theorem builder_String (B b : Nat) (l : List UInt8) (w : World) (h : Lib.IsBuilder 144 5 B b (Lib.byteCells l) w) (hBw : B ≤ w.heap.size) :
    Calls Try.prog 101 #[.pointer (some ⟨b, 0, none⟩)] w fun e w' => e = .returned (.string ⟨l.toArray⟩) ∧ Below B w w' := Go.Proofs.Any.Builder_String_any wrL wrX B b l w h hBw
end Go.Proofs.Ytipgldfbjlhpoab.P
