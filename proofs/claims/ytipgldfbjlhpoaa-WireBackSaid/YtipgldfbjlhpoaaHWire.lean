/- wire.Num and wire.number: their contracts, in the form in which the printed callers take them. -/
import Derived.Test.YtipgldfbjlhpoaaHWire1
namespace Go.Proofs.Ytipgldfbjlhpoaa.P
open Go.RowKit Go.Proofs.YtipgldfbjlhpoaaW.PrintWords
def wire_Num.f (a0 : Int) : Option (ByteArray × Int) := some (if a0 < 0 ∨ 9007199254740992 < a0 then (⟨#[]⟩, 3) else (Wire.numB a0.toNat, 0))
theorem wire_Num.calls (a0 : Int) (r1 : ByteArray) (r2 : Int) (w : World) (h : wire_Num.f a0 = some (r1, r2)) :
    Calls Try.prog 39 #[.int .i64 a0] w fun e w' => e = .returned (.tuple #[.string r1, .int .i64 r2]) ∧ Below w.heap.size w w' := by
  unfold wire_Num.f at h
  have h := Option.some.inj h
  split at h
  · rename_i hc
    cases h
    exact Wire.num_bad a0 w hc
  · rename_i hc
    cases h
    have e : a0 = (a0.toNat : Int) := by omega
    have := Wire.num_ok a0.toNat w (by omega)
    rw [← e] at this
    exact this
def wire_number.f (a0 : ByteArray) : Option (Int × Int × Int) := some (Wire.numberS a0)
theorem wire_number.calls (a0 : ByteArray) (r1 r2 r3 : Int) (w : World) (h : wire_number.f a0 = some (r1, r2, r3)) :
    Calls Try.prog 70 #[.string a0] w fun e w' => e = .returned (.tuple #[.int .i64 r1, .int .i64 r2, .int .i64 r3]) ∧ Drawn0 w w' := by
  have h : Wire.numberS a0 = (r1, r2, r3) := Option.some.inj h
  refine (Wire.number_any a0 w).mono ?_
  rintro e w' ⟨rfl, rfl⟩
  rw [h]
  exact ⟨rfl, Drawn0.refl _⟩
end Go.Proofs.Ytipgldfbjlhpoaa.P
