/- The plain side of MerkleRoots. -/
import Derived.Test.YtipgldfbjlhpoaaPureMerkle2
import Derived.Test.YtipgldfbjlhpoaaPLMerkleRoots
namespace Go.Proofs.Ytipgldfbjlhpoaa.Pure
set_option linter.unusedVariables false
set_option linter.unusedSimpArgs false
open Go.RowKit Go.Proofs.Ytipgldfbjlhpoaa.P Go.Proofs.Ytipgldfbjlhpoaa.Wire Go.Proofs.Ytipgldfbjlhpoaa.Sha Go.Proofs.YtipgldfbjlhpoaaW.PrintWords Go.Proofs.YtipgldfbjlhpoaaW.PrintLast

theorem roots_l0 (l : List S72) (a : Int) (hl : l.length ≤ 20) (hs : short 200 l) : ∀ (d k i : Nat), i + d = l.length → d + 100 ≤ k → footbridgelaw11_MerkleRoots.l0 k l a (rootP l) (i : Int) = some true := by
  intro d
  induction d with
  | zero =>
    intro k i hi hk
    obtain ⟨k, rfl⟩ : ∃ q, k = q + 1 := ⟨k - 1, by omega⟩
    have hr : (rootP l).size = 32 := size_sumB _
    have z := size_numE a
    rw [footbridgelaw11_MerkleRoots.l0, if_neg (by omega), root_f l hl hs]
    simp only [Option.bind_some, if_true]
    rw [top_f a _ (by omega), rtop_f a _ k (by omega) (by omega)]
    simp only [Option.bind_some]
    rw [rsum_f _ (by rw [size_topT]; omega)]
    simp only [Option.bind_some, if_true]
    by_cases h : a > 1099511627776
    · rw [if_pos h]; rfl
    · obtain ⟨s, h1, h2⟩ := splits_eq a h k (by omega)
      rw [if_neg h, h1, h2]
      simp only [Option.bind_some, if_true]
      rfl
  | succ d ih =>
    intro k i hi hk
    obtain ⟨k, rfl⟩ : ∃ q, k = q + 1 := ⟨k - 1, by omega⟩
    have hil : i < l.length := by omega
    have hz := hs _ (List.getElem_mem hil)
    have w : wrap64 ((i : Int) + 1) = ((i + 1 : Nat) : Int) := by rw [w64 (by omega) (by omega)]; omega
    have e0 := enc1_le (l[i]).f0 (by omega)
    have e1 := enc1_le (l[i]).f1 (by omega)
    rw [footbridgelaw11_MerkleRoots.l0, if_pos (by omega), if_pos (by omega), rd_mem i hil, leaf_f _ _ (by omega) (by omega), rleaf_f _ _ k (by omega) (by omega) (by omega)]
    simp only [Option.bind_some]
    rw [rsum_f _ (by rw [size_leafT]; dsimp only; omega)]
    simp only [Option.bind_some, if_true]
    rw [node_f _ _ (by omega) (by omega), rnode_f _ _ (by omega) (by omega)]
    simp only [Option.bind_some]
    rw [rsum_f _ (by rw [size_nodeT]; omega)]
    simp only [Option.bind_some, if_true]
    rw [w]
    exact ih k (i + 1) (by omega) (by omega)
theorem MerkleRoots (l : List S72) (a : Int) (k : Nat) (hk : 200 ≤ k) : footbridgelaw11_MerkleRoots.f k l a = some true := by
  obtain ⟨b, hb, hs⟩ := few11_f l 20 (by omega) k (by omega)
  unfold footbridgelaw11_MerkleRoots.f
  rw [show (20 : Int) = ((20 : Nat) : Int) from rfl, hb, Option.bind_some]
  cases b with
  | false => rfl
  | true =>
    obtain ⟨h1, h2⟩ := hs rfl
    rw [if_pos rfl, rroot_f l k (by omega) h1 h2, Option.bind_some]
    exact roots_l0 l a h1 h2 l.length k 0 (by omega) (by omega)
end Go.Proofs.Ytipgldfbjlhpoaa.Pure
