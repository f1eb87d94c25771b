/- The order of strings, and lists that rise by a key. -/
import Derived.Test.YtipgldfbjlhpoabZbPureWire
namespace Go.Proofs.Ytipgldfbjlhpoab.Pure
set_option linter.unusedVariables false
set_option linter.unusedSimpArgs false
open Go.RowKit Go.Proofs.Ytipgldfbjlhpoab.P
theorem less_cons (a b : UInt8) (x y : List UInt8) : Op.bytesLess (a :: x) (b :: y) = true ↔ a < b ∨ (a = b ∧ Op.bytesLess x y = true) := by
 simp only [Op.bytesLess]
 by_cases h1 : a < b
 · simp [h1]
 · by_cases h2 : a = b
   · subst h2
     simp [h1]
   · have : b < a := by
      rcases Nat.lt_trichotomy a.toNat b.toNat with h | h | h
      · exact absurd (UInt8.lt_iff_toNat_lt.mpr h) h1
      · exact absurd (UInt8.toNat_inj.mp h) h2
      · exact UInt8.lt_iff_toNat_lt.mpr h
     simp [h1, h2, this]
theorem less_nil (x : List UInt8) : Op.bytesLess x [] = false := by cases x <;> rfl
theorem less_irrefl : ∀ x : List UInt8, Op.bytesLess x x = false := by
 intro x
 induction x with
 | nil => rfl
 | cons a x ih =>
  rw [Bool.eq_false_iff]
  intro h
  rcases (less_cons _ _ _ _).mp h with h | ⟨_, h⟩
  · exact absurd (UInt8.lt_iff_toNat_lt.mp h) (Nat.lt_irrefl _)
  · rw [ih] at h
    cases h
theorem less_trans : ∀ x y z : List UInt8, Op.bytesLess x y = true → Op.bytesLess y z = true → Op.bytesLess x z = true := by
 intro x
 induction x with
 | nil =>
  intro y z h1 h2
  cases z with
  | nil => rw [less_nil] at h2; cases h2
  | cons c z => rfl
 | cons a x ih =>
  intro y z h1 h2
  cases y with
  | nil => rw [less_nil] at h1; cases h1
  | cons b y =>
   cases z with
   | nil => rw [less_nil] at h2; cases h2
   | cons c z =>
    rw [less_cons] at h1 h2 ⊢
    rcases h1 with h1 | ⟨rfl, h1⟩
    · rcases h2 with h2 | ⟨rfl, h2⟩
      · exact Or.inl (UInt8.lt_iff_toNat_lt.mpr (Nat.lt_trans (UInt8.lt_iff_toNat_lt.mp h1) (UInt8.lt_iff_toNat_lt.mp h2)))
      · exact Or.inl h1
    · rcases h2 with h2 | ⟨rfl, h2⟩
      · exact Or.inl h2
      · exact Or.inr ⟨rfl, ih _ _ h1 h2⟩
theorem less_tri : ∀ x y : List UInt8, Op.bytesLess x y = false → Op.bytesLess y x = false → x = y := by
 intro x
 induction x with
 | nil =>
  intro y h1 h2
  cases y with
  | nil => rfl
  | cons b y => cases h1
 | cons a x ih =>
  intro y h1 h2
  cases y with
  | nil => cases h2
  | cons b y =>
   rw [Bool.eq_false_iff, ne_eq, less_cons] at h1 h2
   have hab : a = b := by
    rcases Nat.lt_trichotomy a.toNat b.toNat with h | h | h
    · exact absurd (Or.inl (UInt8.lt_iff_toNat_lt.mpr h)) h1
    · exact UInt8.toNat_inj.mp h
    · exact absurd (Or.inl (UInt8.lt_iff_toNat_lt.mpr h)) h2
   subst hab
   rw [ih y (by rw [Bool.eq_false_iff]; intro h; exact h1 (Or.inr ⟨rfl, h⟩)) (by rw [Bool.eq_false_iff]; intro h; exact h2 (Or.inr ⟨rfl, h⟩))]
theorem less_asymm {x y : List UInt8} (h : Op.bytesLess x y = true) : Op.bytesLess y x = false := by
 rw [Bool.eq_false_iff]
 intro h2
 have := less_trans _ _ _ h h2
 rw [less_irrefl] at this
 cases this
theorem toList_inj {a b : ByteArray} (h : a.toList = b.toList) : a = b := by
 rw [ByteArray.toList_eq, ByteArray.toList_eq] at h
 cases a
 cases b
 congr 1
 exact Array.toList_inj.mp h
def Up {α : Type} (key : α → List UInt8) : List α → Prop
 | [] => True
 | x :: l => (∀ y ∈ l, Op.bytesLess (key x) (key y) = true) ∧ Up key l
theorem up_of {α : Type} (key : α → List UInt8) : ∀ l : List α, (∀ i (h : i + 1 < l.length), Op.bytesLess (key l[i]) (key l[i + 1]) = true) → Up key l := by
 intro l
 induction l with
 | nil => intro _; exact trivial
 | cons x l ih =>
  intro h
  have hl : Up key l := ih (fun i hi => h (i + 1) (by simp; omega))
  refine ⟨?_, hl⟩
  cases l with
  | nil => intro y hy; cases hy
  | cons z l =>
   have hz : Op.bytesLess (key x) (key z) = true := h 0 (by simp)
   intro y hy
   rcases List.mem_cons.mp hy with rfl | hy
   · exact hz
   · exact less_trans _ _ _ hz (hl.1 y hy)
theorem of_up {α : Type} (key : α → List UInt8) : ∀ l : List α, Up key l → ∀ i (h : i + 1 < l.length), Op.bytesLess (key l[i]) (key l[i + 1]) = true := by
 intro l
 induction l with
 | nil => intro _ i h; simp at h
 | cons x l ih =>
  intro hu i h
  cases i with
  | zero => exact hu.1 _ (List.getElem_mem (by simpa using h))
  | succ i => exact ih hu.2 i (by simpa using h)
end Go.Proofs.Ytipgldfbjlhpoab.Pure
