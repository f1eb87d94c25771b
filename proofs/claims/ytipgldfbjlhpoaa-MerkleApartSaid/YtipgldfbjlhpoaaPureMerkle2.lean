/- The plain side of layer 11: the bounds. -/
import Derived.Test.YtipgldfbjlhpoaaPureMerkle
import Derived.Test.YtipgldfbjlhpoaaPL11
namespace Go.Proofs.Ytipgldfbjlhpoaa.Pure
set_option linter.unusedVariables false
set_option linter.unusedSimpArgs false
open Go.RowKit Go.Proofs.Ytipgldfbjlhpoaa.P Go.Proofs.Ytipgldfbjlhpoaa.Wire Go.Proofs.Ytipgldfbjlhpoaa.Sha Go.Proofs.YtipgldfbjlhpoaaW.PrintWords Go.Proofs.YtipgldfbjlhpoaaW.PrintLast

theorem few11_l0 (l : List S72) (hl : l.length ≤ 1000) : ∀ (d k i : Nat), i + d = l.length → d < k →
    ∃ b, footbridgelaw11_few.l0 k l (i : Int) = some b ∧ (b = true → ∀ j (hj : j < l.length), i ≤ j → (l[j]).f0.size ≤ 200 ∧ (l[j]).f1.size ≤ 200) := by
  intro d
  induction d with
  | zero =>
    intro k i hi hk
    obtain ⟨k, rfl⟩ : ∃ q, k = q + 1 := ⟨k - 1, by omega⟩
    rw [footbridgelaw11_few.l0, if_neg (by omega)]
    exact ⟨true, rfl, fun _ j hj hij => by omega⟩
  | succ d ih =>
    intro k i hi hk
    obtain ⟨k, rfl⟩ : ∃ q, k = q + 1 := ⟨k - 1, by omega⟩
    have hil : i < l.length := by omega
    rw [footbridgelaw11_few.l0, if_pos (by omega), if_pos (by omega), rd_mem i hil]
    by_cases h0 : ((l[i]).f0.size : Int) > 200
    · rw [if_pos h0]
      exact ⟨false, rfl, fun h => by cases h⟩
    · rw [if_neg h0]
      by_cases h1 : ((l[i]).f1.size : Int) > 200
      · rw [if_pos h1]
        exact ⟨false, rfl, fun h => by cases h⟩
      · rw [if_neg h1]
        have w : wrap64 ((i : Int) + 1) = ((i + 1 : Nat) : Int) := by rw [w64 (by omega) (by omega)]; omega
        obtain ⟨b, hb, hs⟩ := ih k (i + 1) (by omega) (by omega)
        rw [w, hb]
        refine ⟨b, rfl, fun hbt j hj hij => ?_⟩
        by_cases e : i = j
        · subst e; omega
        · exact hs hbt j hj (by omega)
theorem few11_f (l : List S72) (m : Nat) (hm : m ≤ 1000) (k : Nat) (hk : m < k) : ∃ b, footbridgelaw11_few.f k l (m : Int) = some b ∧ (b = true → l.length ≤ m ∧ short 200 l) := by
  unfold footbridgelaw11_few.f
  by_cases h : (l.length : Int) > (m : Int)
  · rw [if_pos h]
    exact ⟨false, rfl, fun h => by cases h⟩
  · rw [if_neg h]
    obtain ⟨b, hb, hs⟩ := few11_l0 l (by omega) l.length k 0 (by omega) (by omega)
    rw [show ((0 : Nat) : Int) = 0 from rfl] at hb
    rw [hb]
    refine ⟨b, rfl, fun hbt => ⟨by omega, fun p hp => ?_⟩⟩
    obtain ⟨j, hj, rfl⟩ := List.mem_iff_getElem.mp hp
    exact hs hbt j hj (Nat.zero_le _)
theorem splits_eq (a : Int) (h : ¬ a > 1099511627776) (k : Nat) (hk : 50 ≤ k) : ∃ s, merkle_Split.f a = some s ∧ footbridgeref11_Split.f k a = some s := by
  by_cases h2 : a < 2
  · exact ⟨0, split_small a h2, rsplit_small a h2 k⟩
  · obtain ⟨n, rfl⟩ := Int.eq_ofNat_of_zero_le (show 0 ≤ a by omega)
    exact ⟨_, split_f n (by omega), rsplit_f n (by omega) k hk⟩
theorem tree_fuel : ∀ (d e : Nat) (l : List S72), l.length ≤ d → l.length ≤ e → tree d l = tree e l := by
  intro d
  induction d with
  | zero =>
    intro e l h1 h2
    cases e with
    | zero => rfl
    | succ e => rw [tree, tree, if_pos (by omega)]
  | succ d ih =>
    intro e l h1 h2
    cases e with
    | zero => rw [tree, tree, if_pos (by omega)]
    | succ e =>
      rw [tree, tree]
      by_cases h0 : l.length = 0
      · rw [if_pos h0, if_pos h0]
      · rw [if_neg h0, if_neg h0]
        by_cases h : l.length = 1
        · rw [if_pos h, if_pos h]
        · have hp := parts_len l (by omega)
          have hb := sp_bounds l.length (by omega)
          rw [if_neg h, if_neg h, ih e (l.take (sp l.length)) (by omega) (by omega), ih e (l.drop (sp l.length)) (by omega) (by omega)]
end Go.Proofs.Ytipgldfbjlhpoaa.Pure
