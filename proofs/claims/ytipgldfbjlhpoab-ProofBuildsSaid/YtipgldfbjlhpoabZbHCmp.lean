/- strings.Compare's contract at this program, and what it says of the order. -/
import Derived.Shelf.Small.Strs
import Derived.Test.YtipgldfbjlhpoabZbPureOrd
import Derived.Test.YtipgldfbjlhpoabProg
namespace Go.Proofs.Ytipgldfbjlhpoab.P
open Go.Shelf
def cpR : Go.Shelf.Ren := ⟨fun | 106 => 122 | 213 => 157 | 265 => 177 | n => n, fun n => n, fun n => n⟩
theorem cpL : Go.Proofs.Lays.n106 Try.prog cpR := {
 mixed := by kernel_rfl
 f106 := Try.func122.trans (congrArg some (by kernel_rfl))
 f213 := Try.func157.trans (congrArg some (by kernel_rfl))
 f265 := Try.func177.trans (congrArg some (by kernel_rfl))
 t3 := Try.underlying3
 a3 := Try.isAgg3
 z3 := Try.sizeOf3
 v3 := Try.zeroValue3
 t9 := Try.underlying9
 a9 := Try.isAgg9
 z9 := Try.sizeOf9
 v9 := Try.zeroValue9 }
open Go.RowKit in
theorem strings_Compare (a b : ByteArray) (w : World) :
  Calls Try.prog 122 #[.string a, .string b] w fun e w' => e = .returned (.int .i64 (Lib.compareBytes a.data.toList b.data.toList)) ∧ w' = w := Go.Proofs.Any.strings_Compare cpL a b w
end Go.Proofs.Ytipgldfbjlhpoab.P
namespace Go.Proofs.Ytipgldfbjlhpoab.Pure
theorem cmp_neg : ∀ x y : List UInt8, Lib.compareBytes x y < 0 ↔ Op.bytesLess x y = true := by
 intro x
 induction x with
 | nil =>
  intro y
  cases y with
  | nil => simp [Lib.compareBytes, Op.bytesLess]
  | cons b y => simp [Lib.compareBytes, Op.bytesLess]
 | cons a x ih =>
  intro y
  cases y with
  | nil => simp [Lib.compareBytes, Op.bytesLess]
  | cons b y =>
   rw [less_cons, Lib.compareBytes]
   by_cases h1 : a < b
   · simp [h1]
   · rw [if_neg h1]
     by_cases h2 : b < a
     · rw [if_pos h2]
       constructor
       · intro h; omega
       · rintro (h | ⟨rfl, h⟩)
         · exact absurd h h1
         · exact absurd h2 h1
     · rw [if_neg h2, ih]
       have hab : a = b := by
        rcases Nat.lt_trichotomy a.toNat b.toNat with h | h | h
        · exact absurd (UInt8.lt_iff_toNat_lt.mpr h) h1
        · exact UInt8.toNat_inj.mp h
        · exact absurd (UInt8.lt_iff_toNat_lt.mpr h) h2
       constructor
       · intro h; exact Or.inr ⟨hab, h⟩
       · rintro (h | ⟨_, h⟩)
         · exact absurd h h1
         · exact h
theorem cmp_zero : ∀ x y : List UInt8, Lib.compareBytes x y = 0 ↔ x = y := by
 intro x
 induction x with
 | nil =>
  intro y
  cases y with
  | nil => simp [Lib.compareBytes]
  | cons b y => simp [Lib.compareBytes]
 | cons a x ih =>
  intro y
  cases y with
  | nil => simp [Lib.compareBytes]
  | cons b y =>
   rw [Lib.compareBytes]
   by_cases h1 : a < b
   · rw [if_pos h1]
     constructor
     · intro h; omega
     · intro h
       injection h with h _
       subst h
       exact absurd (UInt8.lt_iff_toNat_lt.mp h1) (Nat.lt_irrefl _)
   · rw [if_neg h1]
     by_cases h2 : b < a
     · rw [if_pos h2]
       constructor
       · intro h; omega
       · intro h
         injection h with h _
         subst h
         exact absurd h2 h1
     · rw [if_neg h2, ih]
       have hab : a = b := by
        rcases Nat.lt_trichotomy a.toNat b.toNat with h | h | h
        · exact absurd (UInt8.lt_iff_toNat_lt.mpr h) h1
        · exact UInt8.toNat_inj.mp h
        · exact absurd (UInt8.lt_iff_toNat_lt.mpr h) h2
       rw [hab]
       simp
end Go.Proofs.Ytipgldfbjlhpoab.Pure
