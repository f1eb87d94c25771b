/- Lists that rise; the value of a key; pairs that are the same. -/
import Derived.Test.YtipgldfbjlhpoabPureDiffB1
import Derived.Test.YtipgldfbjlhpoabPureDiff1
import Derived.Test.YtipgldfbjlhpoabPR12I
import Derived.Test.YtipgldfbjlhpoabPR09G
import Derived.Test.YtipgldfbjlhpoabPR09S
namespace Go.Proofs.Ytipgldfbjlhpoab.Pure
set_option linter.unusedVariables false
set_option linter.unusedSimpArgs false
open Go.RowKit Go.Proofs.Ytipgldfbjlhpoab.P Go.Proofs.Ytipgldfbjlhpoab.Wire Go.Proofs.Ytipgldfbjlhpoab.Sha Go.Proofs.YtipgldfbjlhpoabW.PrintWords Go.Proofs.YtipgldfbjlhpoabW.PrintLast
theorem risP_iff (l : List Pr) : risP l (l.length - 1) = true ↔ ∀ i (h : i + 1 < l.length), Op.bytesLess (keyP l[i]) (keyP l[i + 1]) = true := by
  unfold risP
  rw [List.all_eq_true]
  constructor
  · intro h i hi
    have := h i (List.mem_range.mpr (by omega))
    rw [lessP, rdP l i (by omega), rdP l (i + 1) (by omega)] at this
    exact this
  · intro h i hi
    rw [List.mem_range] at hi
    rw [lessP, rdP l i (by omega), rdP l (i + 1) (by omega)]
    exact h i (by omega)
theorem risC_iff (l : List Ch) : risC l (l.length - 1) = true ↔ ∀ i (h : i + 1 < l.length), Op.bytesLess (keyC l[i]) (keyC l[i + 1]) = true := by
  unfold risC
  rw [List.all_eq_true]
  constructor
  · intro h i hi
    have := h i (List.mem_range.mpr (by omega))
    rw [lessC, rdC l i (by omega), rdC l (i + 1) (by omega)] at this
    exact this
  · intro h i hi
    rw [List.mem_range] at hi
    rw [lessC, rdC l i (by omega), rdC l (i + 1) (by omega)]
    exact h i (by omega)
theorem cleanC_of (l : List Ch) (h : ∀ c ∈ l, c.f2 = true → c.f1 = ⟨#[]⟩) : cleanC l l.length = true := by
  unfold cleanC
  rw [List.all_eq_true]
  intro i hi
  rw [List.mem_range] at hi
  rw [rdC l i hi, badC]
  have := h l[i] (List.getElem_mem hi)
  cases hg : l[i].f2 with
  | false => rfl
  | true =>
    rw [this hg]
    decide +kernel
theorem rises_l0 (l : List Pr) (hl : l.length ≤ 1000000) : ∀ (d k i : Nat), i + d = l.length → d < k → 1 ≤ i → risP l (i - 1) = true → footbridgeref12_Rises.l0 k l (i : Int) = some (risP l (l.length - 1)) := by
  intro d
  induction d with
  | zero =>
    intro k i hi hk h1 h2
    obtain ⟨k, rfl⟩ : ∃ q, k = q + 1 := ⟨k - 1, by omega⟩
    obtain rfl : i = l.length := by omega
    rw [footbridgeref12_Rises.l0, if_neg (by omega), h2]
  | succ d ih =>
    intro k i hi hk h1 h2
    obtain ⟨k, rfl⟩ : ∃ q, k = q + 1 := ⟨k - 1, by omega⟩
    obtain ⟨j, rfl⟩ : ∃ j, i = j + 1 := ⟨i - 1, by omega⟩
    have hw : wrap64 (((j + 1 : Nat) : Int) - 1) = (j : Int) := by
      rw [w64 (by omega) (by omega)]
      omega
    rw [footbridgeref12_Rises.l0, if_pos (by omega), hw, if_pos (by omega), if_pos (by omega), if_pos (by omega)]
    rw [Nat.add_sub_cancel] at h2
    by_cases hless : Op.bytesLess ((rd_T86 l (j : Int)).f0.toList) ((rd_T86 l ((j + 1 : Nat) : Int)).f0.toList) = true
    · rw [if_pos hless, w1 (j + 1) l.length (by omega) (by omega)]
      exact ih k (j + 1 + 1) (by omega) (by omega) (by omega) (by rw [Nat.add_sub_cancel, risP_succ, h2]; exact hless)
    · rw [if_neg hless, risP_no l (m := j) (n := l.length - 1) (Bool.eq_false_iff.mpr hless) (by omega)]
theorem rises_eq (l : List Pr) (k : Nat) (hl : l.length ≤ 1000000) (hk : l.length + 2 < k) : footbridgeref12_Rises.f k l = some (risP l (l.length - 1)) := by
  unfold footbridgeref12_Rises.f
  cases l with
  | nil =>
    obtain ⟨k, rfl⟩ : ∃ q, k = q + 1 := ⟨k - 1, by omega⟩
    rw [footbridgeref12_Rises.l0, if_neg (by simp)]
    rfl
  | cons x l => exact rises_l0 (x :: l) hl l.length k 1 (by simp; omega) (by simp at hk; omega) (by omega) rfl
theorem same09_l0 (l : List Pr) (hl : l.length ≤ 1000000) : ∀ (d k i : Nat), i + d = l.length → d < k → footbridgeref09_Same.l0 k l l (i : Int) = some true := by
  intro d
  induction d with
  | zero =>
    intro k i hi hk
    obtain ⟨k, rfl⟩ : ∃ q, k = q + 1 := ⟨k - 1, by omega⟩
    rw [footbridgeref09_Same.l0, if_neg (by omega)]
  | succ d ih =>
    intro k i hi hk
    obtain ⟨k, rfl⟩ : ∃ q, k = q + 1 := ⟨k - 1, by omega⟩
    rw [footbridgeref09_Same.l0, if_pos (by omega), if_pos (by omega), if_pos (by omega), if_neg (by simp), w1 i l.length (by omega) (by omega)]
    exact ih k (i + 1) (by omega) (by omega)
theorem same09 (l : List Pr) (k : Nat) (hl : l.length ≤ 1000000) (hk : l.length < k) : footbridgeref09_Same.f k l l = some true := by
  unfold footbridgeref09_Same.f
  rw [if_pos rfl]
  exact same09_l0 l hl l.length k 0 (by omega) hk
/-- Where a key stands, or would. -/
def atM (key : List UInt8) : List Pr → Nat
  | [] => 0
  | x :: l => if Op.bytesLess (keyP x) key = true then atM key l + 1 else 0
theorem atM_le (key : List UInt8) : ∀ l : List Pr, atM key l ≤ l.length := by
  intro l
  induction l with
  | nil => exact Nat.le_refl _
  | cons x l ih =>
    rw [atM, List.length_cons]
    split <;> omega
theorem at_l0 (l : List Pr) (key : ByteArray) (hl : l.length ≤ 1000000) : ∀ (d k i : Nat), i + d = l.length → d < k → footbridgeref09_at.l0 k l key (i : Int) = some ((i + atM key.toList (l.drop i) : Nat) : Int) := by
  intro d
  induction d with
  | zero =>
    intro k i hi hk
    obtain ⟨k, rfl⟩ : ∃ q, k = q + 1 := ⟨k - 1, by omega⟩
    rw [footbridgeref09_at.l0, if_neg (by omega), List.drop_eq_nil_of_le (by omega), atM, Nat.add_zero]
  | succ d ih =>
    intro k i hi hk
    obtain ⟨k, rfl⟩ : ∃ q, k = q + 1 := ⟨k - 1, by omega⟩
    have hil : i < l.length := by omega
    rw [footbridgeref09_at.l0, if_pos (by omega), if_pos (by omega), rdP l i hil, List.drop_eq_getElem_cons hil, atM]
    by_cases hless : Op.bytesLess (l[i].f0.toList) key.toList = true
    · rw [if_pos hless, if_pos (show Op.bytesLess (keyP l[i]) key.toList = true from hless), w1 i l.length (by omega) (by omega), ih k (i + 1) (by omega) (by omega)]
      congr 1
      omega
    · rw [if_neg hless, if_neg (show ¬ Op.bytesLess (keyP l[i]) key.toList = true from hless), Nat.add_zero]
theorem get_is (l : List Pr) (key : ByteArray) (k : Nat) (hl : l.length ≤ 1000000) (hk : l.length < k) : ∃ (v : ByteArray) (ok : Bool), footbridgeref09_Get.f k l key = some (v, ok) ∧ (ok = true → ∃ x ∈ l, x.f0.toList = key.toList ∧ x.f1 = v) ∧ (ok = false → Up keyP l → ∀ x ∈ l, x.f0.toList ≠ key.toList) := by
  have hle := atM_le key.toList l
  unfold footbridgeref09_Get.f footbridgeref09_at.f
  rw [show footbridgeref09_at.l0 k l key 0 = _ from at_l0 l key hl l.length k 0 (by omega) hk, Option.bind_some, List.drop_zero, Nat.zero_add]
  have hno : ∀ (l : List Pr), Up keyP l → (∀ h : atM key.toList l < l.length, l[atM key.toList l].f0.toList ≠ key.toList) → ∀ x ∈ l, x.f0.toList ≠ key.toList := by
    intro l
    induction l with
    | nil => intro _ _ x hx; cases hx
    | cons y l ih =>
      intro hu h x hx e
      rcases List.mem_cons.mp hx with rfl | hx
      · have h0 : atM key.toList (x :: l) = 0 := by
          rw [atM, if_neg (by rw [keyP, e, less_irrefl]; decide)]
        have := h (by rw [h0]; simp)
        simp only [h0] at this
        exact this e
      · have hy : Op.bytesLess (keyP y) key.toList = true := by
          have := hu.1 x hx
          rw [keyP, keyP, e] at this
          exact this
        have h0 : atM key.toList (y :: l) = atM key.toList l + 1 := by rw [atM, if_pos hy]
        refine ih hu.2 (fun hlt => ?_) x hx e
        have := h (by rw [h0]; simpa using hlt)
        simp only [h0] at this
        exact this
  by_cases hlt : atM key.toList l < l.length
  · rw [if_pos (by omega), if_pos (by omega), rdP l _ hlt]
    by_cases he : l[atM key.toList l].f0.toList = key.toList
    · rw [if_pos he]
      exact ⟨_, _, rfl, fun _ => ⟨_, List.getElem_mem hlt, he, rfl⟩, fun h => by cases h⟩
    · rw [if_neg he]
      exact ⟨_, _, rfl, fun h => (by cases h), fun _ hu => hno l hu (fun _ => he)⟩
  · rw [if_neg (by omega)]
    exact ⟨_, _, rfl, fun h => (by cases h), fun _ hu => hno l hu (fun h => absurd h hlt)⟩
end Go.Proofs.Ytipgldfbjlhpoab.Pure
