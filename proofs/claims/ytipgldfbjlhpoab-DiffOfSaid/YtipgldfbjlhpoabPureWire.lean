/- The plain side of layer 1: numbers in bytes. -/
import Derived.Test.YtipgldfbjlhpoabPWire
namespace Go.Proofs.Ytipgldfbjlhpoab.Pure
set_option linter.unusedVariables false
set_option linter.unusedSimpArgs false
open Go.RowKit Go.Proofs.Ytipgldfbjlhpoab.P Go.Proofs.Ytipgldfbjlhpoab.Wire Go.Proofs.YtipgldfbjlhpoabW.PrintWords Go.Proofs.YtipgldfbjlhpoabW.PrintLast

theorem bt_byteN (s : ByteArray) (i : Nat) : bt s (i : Int) = (byteN s i : Int) := by
  unfold bt byteN
  simp only [Int.toNat_natCast]
  split <;> rfl
theorem w64 {n : Int} (h0 : 0 ≤ n) (h1 : n < 9223372036854775808) : wrap64 n = n := by unfold wrap64; omega
theorem toList_nil (s : ByteArray) : s.toList = ([] : List UInt8) ↔ s.size = 0 := by
  rw [ByteArray.toList_eq]
  constructor
  · intro h
    have := congrArg List.length h
    rwa [Array.length_toList] at this
  · intro h
    exact List.eq_nil_of_length_eq_zero (by rw [Array.length_toList]; exact h)
/-- What a reading of a number tells: an error, or a number and how many bytes it has. -/
theorem numberS_cases (s : ByteArray) : (∃ e : Int, e ≠ 0 ∧ numberS s = (0, 0, e)) ∨ (∃ n at_ : Nat, numberS s = ((n : Int), (at_ : Int), 0) ∧ 1 ≤ at_ ∧ at_ ≤ 8 ∧ at_ ≤ s.size ∧ n ≤ 9007199254740992) := by
  unfold numberS
  split
  · exact .inl ⟨5, by decide, rfl⟩
  split
  · exact .inl ⟨6, by decide, rfl⟩
  split
  · exact .inl ⟨6, by decide, rfl⟩
  split
  · exact .inl ⟨5, by decide, rfl⟩
  split
  · exact .inl ⟨3, by decide, rfl⟩
  · refine .inr ⟨numTo s (byteN s 0), byteN s 0 + 1, rfl, by omega, by omega, by omega, by omega⟩
theorem take_ok (s : ByteArray) (e : Int) (a : Nat) (h : a ≤ s.size) : wire_Reader_take.f s e (a : Int) 0 = some (true, s.extract a s.size, e) := by
  unfold wire_Reader_take.f
  rw [if_pos rfl, if_pos (by omega), if_pos (by omega), Int.toNat_natCast]
theorem take_bad (s : ByteArray) (e a e2 : Int) (h : e2 ≠ 0) : wire_Reader_take.f s e a e2 = some (false, s, e2) := by
  unfold wire_Reader_take.f
  rw [if_neg h]
theorem size_rest (s : ByteArray) (a : Nat) : (s.extract a s.size).size = s.size - a := by rw [ByteArray.size_extract, Nat.min_self]
theorem rest_rest (s : ByteArray) (a b : Nat) (h : a ≤ s.size) : (s.extract a s.size).extract b (s.extract a s.size).size = s.extract (a + b) s.size := by
  rw [ByteArray.extract_extract, size_rest]
  congr 1
  omega
end Go.Proofs.Ytipgldfbjlhpoab.Pure
