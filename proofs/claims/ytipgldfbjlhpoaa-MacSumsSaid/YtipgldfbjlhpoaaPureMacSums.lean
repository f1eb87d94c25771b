/- The plain side of MacSums: both programs' sums by a key are one function. -/
import Derived.Test.YtipgldfbjlhpoaaPureMac
import Derived.Test.YtipgldfbjlhpoaaPLMacSums
namespace Go.Proofs.Ytipgldfbjlhpoaa.Pure
set_option linter.unusedVariables false
set_option linter.unusedSimpArgs false
open Go.RowKit Go.Proofs.Ytipgldfbjlhpoaa.P Go.Proofs.Ytipgldfbjlhpoaa.Sha Go.Proofs.YtipgldfbjlhpoaaW.PrintWords Go.Proofs.YtipgldfbjlhpoaaW.PrintLast

theorem rmixed_l0 (key : ByteArray) (x : Int) : ∀ (d k i : Nat), i + d = 64 → d < k → footbridgeref05_mixed.l0 k key x ((mixTo key x 64).take i) (i : Int) = some (mixS key x) := by
  intro d
  induction d with
  | zero =>
    intro k i hi hk
    obtain ⟨k, rfl⟩ : ∃ q, k = q + 1 := ⟨k - 1, by omega⟩
    rw [footbridgeref05_mixed.l0, if_neg (by omega), List.take_of_length_le (by rw [length_mixTo]; omega)]
    rfl
  | succ d ih =>
    intro k i hi hk
    obtain ⟨k, rfl⟩ : ∃ q, k = q + 1 := ⟨k - 1, by omega⟩
    have hl : ((mixTo key x 64).take i).length < 140737488355328 := by rw [List.length_take, length_mixTo]; omega
    have w1 : wrap64 ((i : Int) + 1) = ((i + 1 : Nat) : Int) := by unfold wrap64; omega
    have hlt : i < (mixTo key x 64).length := by rw [length_mixTo]; omega
    have e : (mixTo key x 64).take (i + 1) = (mixTo key x 64).take i ++ [bits .xor .u8 (macC key i) x] := by
      rw [List.take_add_one, mixTo_at _ _ _ _ (by omega), if_pos (by omega)]
      rfl
    have hn := ih k (i + 1) (by omega) (by omega)
    rw [e] at hn
    rw [footbridgeref05_mixed.l0, if_pos (by omega), w1]
    by_cases hs : i < key.size
    · rw [if_pos (by omega), if_pos (by omega), if_pos hl, ← hn, macC, if_pos hs]
    · rw [if_neg (by omega), if_pos hl, ← hn, macC, if_neg hs]
theorem rmixed_f (key : ByteArray) (x : Int) (k : Nat) (hk : 64 < k) : footbridgeref05_mixed.f k key x = some (mixS key x) := rmixed_l0 key x 64 k 0 (by omega) hk
theorem rsum_f (s : ByteArray) (h : s.size ≤ 1000000000000000) : footbridgeref04_Sum.f s = some (sumB s) := by
  unfold footbridgeref04_Sum.f; rw [if_pos h]
theorem rmac_j0 (k : Nat) (key s : ByteArray) (hk : 65 < k) (hs : s.size ≤ 1000) : footbridgeref05_Sum.j0 k key s = some (sumB (mixS key 92 ++ sumB (mixS key 54 ++ s))) := by
  obtain ⟨k, rfl⟩ : ∃ q, k = q + 1 := ⟨k - 1, by omega⟩
  have z1 := size_mixS key 92
  have z2 := size_mixS key 54
  have z3 := size_sumB (mixS key 54 ++ s)
  rw [footbridgeref05_Sum.j0, rmixed_f _ _ _ (by omega), Option.bind_some, rmixed_f _ _ _ (by omega), Option.bind_some, if_pos (by omega), rsum_f _ (by rw [ByteArray.size_append]; omega), Option.bind_some, if_pos (by omega), rsum_f _ (by rw [ByteArray.size_append]; omega), Option.bind_some]
theorem rmac_f (k : Nat) (key s : ByteArray) (hk : 65 < k) (hy : key.size ≤ 300) (hs : s.size ≤ 1000) : footbridgeref05_Sum.f k key s = some (macB key s) := by
  unfold footbridgeref05_Sum.f macB Sha.keyOf
  by_cases h : (key.size : Int) > 64
  · rw [if_pos h, rsum_f _ (by omega), Option.bind_some, rmac_j0 _ _ _ hk hs, if_pos (by omega)]
  · rw [if_neg h, rmac_j0 _ _ _ hk hs, if_neg (by omega)]
theorem sums_j0 (key s t : ByteArray) (c : Bool) (hc : c = false → key.size ≤ 300 ∧ s.size ≤ 1000 ∧ t.size ≤ 1000) : footbridgelaw05_MacSums.j0 2000 key s t c = some true := by
  rw [footbridgelaw05_MacSums.j0]
  cases c with
  | true => rw [if_pos rfl, awake05 1999 (by omega)]; rfl
  | false =>
    obtain ⟨h1, h2, h3⟩ := hc rfl
    rw [if_neg (by simp), mac_f _ _ (by omega) (by omega), Option.bind_some, rmac_f _ _ _ (by omega) h1 h2, Option.bind_some, if_pos rfl, same_f _ _ _ (by omega) (by omega), Option.bind_some, if_pos (by simp), awake05 1999 (by omega)]
    rfl
theorem MacSums : footbridgelaw05_MacSums.Pure := by
  intro key s t _ _ _
  refine ⟨2000, ?_⟩
  unfold footbridgelaw05_MacSums.f
  by_cases h : (key.size : Int) > 300
  · rw [if_pos h]; exact sums_j0 _ _ _ _ (fun h => by cases h)
  · rw [if_neg h]
    by_cases h2 : (s.size : Int) > 1000
    · rw [if_pos h2]; exact sums_j0 _ _ _ _ (fun h => by cases h)
    · rw [if_neg h2]
      refine sums_j0 _ _ _ _ (fun h3 => ?_)
      have := of_decide_eq_false h3
      omega
end Go.Proofs.Ytipgldfbjlhpoaa.Pure
