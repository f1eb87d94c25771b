/- The plain statement HeaderBytes. -/
import Derived.Test.YtipgldfbjlhpoabPureHeader
import Derived.Test.YtipgldfbjlhpoabPureWireR
import Derived.Test.YtipgldfbjlhpoabPR13P
import Derived.Test.YtipgldfbjlhpoabPR13R
import Derived.Test.YtipgldfbjlhpoabPLHeaderBytes
namespace Go.Proofs.Ytipgldfbjlhpoab.Pure
set_option linter.unusedVariables false
set_option linter.unusedSimpArgs false
open Go.RowKit Go.Proofs.Ytipgldfbjlhpoab.P Go.Proofs.Ytipgldfbjlhpoab.Wire Go.Proofs.Ytipgldfbjlhpoab.Sha Go.Proofs.YtipgldfbjlhpoabW.PrintWords Go.Proofs.YtipgldfbjlhpoabW.PrintLast

theorem put_eq (c : ByteArray) (h t : Int) (r m : ByteArray) (k : Nat) (hk : 12 ≤ k) : ∃ x, header_Put.f c h t r m = some x ∧ footbridgeref13_Put.f k c h t r m = some x := by
  obtain ⟨s, e, h1, h2, hz, _⟩ := body_f c h t r m k hk
  unfold header_Put.f footbridgeref13_Put.f footbridgeref13_text.f
  rw [h1, h2, lay_text _ k hk]
  simp only [Option.bind_some]
  by_cases he : e = 0
  · subst he
    simp only [if_true]
    rcases text_either m with h4 | ⟨z4, h4⟩
    · rw [h4]
      simp only [Option.bind_some]
      rw [add_ok _ _ _ (by rw [size_none]; omega)]
      exact ⟨_, rfl, by simp [mx]⟩
    · have y4 := enc1_le m z4
      rw [h4]
      simp only [Option.bind_some]
      rw [add_ok _ _ _ (by omega)]
      simp only [if_true]
      rw [if_pos (by omega)]
      exact ⟨_, rfl, rfl⟩
  · obtain ⟨xm, hxm⟩ : ∃ x, wire_Text.f m = some x := by rcases text_either m with h | ⟨_, h⟩ <;> exact ⟨_, h⟩
    rw [hxm]
    simp only [Option.bind_some]
    rw [add_err _ _ e _ he]
    simp only [Option.bind_some, if_neg he]
    exact ⟨_, rfl, rfl⟩
theorem read_eq (s : ByteArray) (k : Nat) (hk : 12 ≤ k) (hs : s.size ≤ 1000000000000000) : ∃ x, header_Read.f s = some x ∧ footbridgeref13_Read.f k s = some x := by
  unfold header_Read.f footbridgeref13_Read.f wire_New.f
  simp only [Option.bind_some]
  obtain ⟨v1, s1, e1, h1, g1, z1⟩ := text_step s 0 k hk hs
  rw [h1, g1]
  simp only [Option.bind_some]
  obtain ⟨v2, s2, e2, h2, g2, z2⟩ := num_step s1 e1 k hk (by omega)
  rw [h2, g2]
  simp only [Option.bind_some]
  obtain ⟨v3, s3, e3, h3, g3, z3⟩ := num_step s2 e2 k hk (by omega)
  rw [h3, g3]
  simp only [Option.bind_some]
  obtain ⟨v4, s4, e4, h4, g4, z4⟩ := text_step s3 e3 k hk (by omega)
  rw [h4, g4]
  simp only [Option.bind_some]
  obtain ⟨v5, s5, e5, h5, g5, z5⟩ := text_step s4 e4 k hk (by omega)
  rw [h5, g5]
  simp only [Option.bind_some]
  obtain ⟨v, h6, g6⟩ := done_step s5 e5
  rw [h6, g6]
  simp only [Option.bind_some]
  by_cases hv : v = 0
  · simp only [if_pos hv]; exact ⟨_, rfl, rfl⟩
  · simp only [if_neg hv]; exact ⟨_, rfl, rfl⟩
theorem HeaderBytes (c : ByteArray) (h t : Int) (r m s : ByteArray) (k : Nat) (hk : 200 ≤ k) : footbridgelaw13_HeaderBytes.f k c h t r m s = some true := by
  unfold footbridgelaw13_HeaderBytes.f
  by_cases hs : (s.size : Int) > 5000
  · rw [if_pos hs]; rfl
  · obtain ⟨x, h1, h2⟩ := put_eq c h t r m k (by omega)
    obtain ⟨y, h3, h4⟩ := read_eq s k (by omega) (by omega)
    rw [if_neg hs, h1, h2, h3, h4]
    simp only [Option.bind_some, if_true]
    rw [if_pos (by simp)]
    rfl
end Go.Proofs.Ytipgldfbjlhpoab.Pure
