/- DiffBytes: the plain side. -/
import Derived.Test.YtipgldfbjlhpoabPureDiff3
import Derived.Test.YtipgldfbjlhpoabPLDiffBytes
namespace Go.Proofs.Ytipgldfbjlhpoab.Pure
set_option linter.unusedVariables false
set_option linter.unusedSimpArgs false
open Go.RowKit Go.Proofs.Ytipgldfbjlhpoab.P Go.Proofs.Ytipgldfbjlhpoab.Wire Go.Proofs.Ytipgldfbjlhpoab.Sha Go.Proofs.YtipgldfbjlhpoabW.PrintWords Go.Proofs.YtipgldfbjlhpoabW.PrintLast
theorem DiffBytes (l : List S62) (s : ByteArray) : ∃ k, footbridgelaw51_DiffBytes.f k l s = some true := by
  obtain ⟨k, hk⟩ : ∃ k, 3000 ≤ k := ⟨3000, Nat.le_refl _⟩
  refine ⟨k + 1, ?_⟩
  obtain ⟨b, hF, hb⟩ := some51 l (k + 1) (by omega)
  unfold footbridgelaw51_DiffBytes.f
  rw [hF, Option.bind_some]
  have hA : ∀ x, x = true → footbridgelaw51_DiffBytes.j0 (k + 1) l s x = some true := by
    intro x hx
    rw [footbridgelaw51_DiffBytes.j0, if_pos hx]
    rfl
  by_cases hb1 : b = true
  · rw [if_pos hb1]
    by_cases hs : (s.size : Int) > 3000
    · exact hA _ (decide_eq_true hs)
    · obtain ⟨hl, hp⟩ := hb hb1
      obtain ⟨r, g, h1, h2, h3⟩ := cread_eq s k (by omega) (by omega)
      rw [footbridgelaw51_DiffBytes.j0, if_neg (by rw [decide_eq_false hs]; decide), put_is l (by omega) hp, rput_is l k (by omega) (by omega) hp, Option.bind_some, Option.bind_some, h1, h2, Option.bind_some, Option.bind_some, if_pos rfl, if_pos rfl]
      dsimp only
      rw [same51 r k (by omega) (by omega), Option.bind_some, if_pos rfl, if_pos rfl]
      rfl
  · rw [if_neg hb1]
    exact hA _ rfl
end Go.Proofs.Ytipgldfbjlhpoab.Pure
