/- The plain side of MerkleParts. -/
import Derived.Test.YtipgldfbjlhpoaaPureMerkle2
import Derived.Test.YtipgldfbjlhpoaaPLMerkleParts
namespace Go.Proofs.Ytipgldfbjlhpoaa.Pure
set_option linter.unusedVariables false
set_option linter.unusedSimpArgs false
open Go.RowKit Go.Proofs.Ytipgldfbjlhpoaa.P Go.Proofs.Ytipgldfbjlhpoaa.Wire Go.Proofs.Ytipgldfbjlhpoaa.Sha Go.Proofs.YtipgldfbjlhpoaaW.PrintWords Go.Proofs.YtipgldfbjlhpoaaW.PrintLast

theorem MerkleParts (l : List S72) (k : Nat) (hk : 200 ≤ k) : footbridgelaw11_MerkleParts.f k l = some true := by
  obtain ⟨k, rfl⟩ : ∃ q, k = q + 2 := ⟨k - 2, by omega⟩
  obtain ⟨b, hb, hs⟩ := few11_f l 20 (by omega) (k + 2) (by omega)
  unfold footbridgelaw11_MerkleParts.f
  rw [show (20 : Int) = ((20 : Nat) : Int) from rfl, hb, Option.bind_some]
  cases b with
  | false => rw [if_neg (by decide), footbridgelaw11_MerkleParts.j0, if_pos rfl]; rfl
  | true =>
    obtain ⟨h1, h2⟩ := hs rfl
    rw [if_pos rfl, footbridgelaw11_MerkleParts.j0]
    by_cases h : (l.length : Int) < 2
    · rw [if_pos (by simpa using h)]; rfl
    · have hp := parts_len l (by omega)
      have hbd := sp_bounds l.length (by omega)
      have ht1 := tree_size 20 (l.take (sp l.length))
      have ht2 := tree_size 20 (l.drop (sp l.length))
      rw [if_neg (by simpa using h), split_f _ (by omega), Option.bind_some, if_neg (by omega), footbridgelaw11_MerkleParts.j1, if_neg (by simp; omega), if_pos (by omega), if_pos (by omega), Int.toNat_natCast,
        rtree_f 20 (l.take (sp l.length)) k (by omega) (by omega) (by omega) (short_take h2 _), Option.bind_some,
        rtree_f 20 (l.drop (sp l.length)) k (by omega) (by omega) (by omega) (short_drop h2 _), Option.bind_some, root_f l h1 h2, Option.bind_some,
        node_f _ _ (by dsimp only; omega) (by dsimp only; omega), Option.bind_some, top_f _ _ (by rw [size_sumB]; omega), Option.bind_some]
      have e : rootP l = sumB (topT (l.length : Int) (sumB (nodeT (tree 20 (l.take (sp l.length))) (tree 20 (l.drop (sp l.length)))))) := by
        rw [rootP]
        conv => lhs; rw [tree, if_neg (by omega), if_neg (by omega)]
        rw [tree_fuel 19 20 _ (by omega) (by omega), tree_fuel 19 20 _ (by omega) (by omega)]
      have w : wrap64 ((l.length : Int) - (sp l.length : Int)) = ((l.length - sp l.length : Nat) : Int) := by rw [w64 (by omega) (by omega)]; omega
      rw [← e, if_pos rfl, w, if_pos (by clear w; omega)]
      rfl
end Go.Proofs.Ytipgldfbjlhpoaa.Pure
