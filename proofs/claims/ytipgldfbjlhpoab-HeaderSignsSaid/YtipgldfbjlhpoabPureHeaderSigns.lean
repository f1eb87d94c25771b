/- The plain statement HeaderSigns. -/
import Derived.Test.YtipgldfbjlhpoabPureHeader
import Derived.Test.YtipgldfbjlhpoabPureHMac
import Derived.Test.YtipgldfbjlhpoabPR13S
import Derived.Test.YtipgldfbjlhpoabPLHeaderSigns
namespace Go.Proofs.Ytipgldfbjlhpoab.Pure
set_option linter.unusedVariables false
set_option linter.unusedSimpArgs false
open Go.RowKit Go.Proofs.Ytipgldfbjlhpoab.P Go.Proofs.Ytipgldfbjlhpoab.Wire Go.Proofs.Ytipgldfbjlhpoab.Sha Go.Proofs.YtipgldfbjlhpoabW.PrintWords Go.Proofs.YtipgldfbjlhpoabW.PrintLast

theorem sign_eq (key c : ByteArray) (h t : Int) (r m : ByteArray) (k : Nat) (hk : 100 ≤ k) (hy : key.size ≤ 300) : ∃ x, header_Sign.f key c h t r m = some x ∧ footbridgeref13_Sign.f k key c h t r m = some x ∧ (x.2.2.2.2.2 = 0 → x.1 = c ∧ x.2.1 = h ∧ x.2.2.1 = t ∧ x.2.2.2.1 = r ∧ x.2.2.2.2.1.size = 32) := by
  obtain ⟨s, e, h1, h2, hz, _⟩ := body_f c h t r m k (by omega)
  unfold header_Sign.f footbridgeref13_Sign.f
  rw [h1, h2]
  simp only [Option.bind_some]
  by_cases he : e = 0
  · subst he
    simp only [if_true]
    rw [mac_f _ _ (by omega) (by omega), rmac_f k _ _ (by omega) hy (by omega)]
    refine ⟨_, rfl, rfl, fun _ => ⟨rfl, rfl, rfl, rfl, ?_⟩⟩
    exact size_sumB _
  · simp only [if_neg he]
    exact ⟨_, rfl, rfl, fun h => absurd h he⟩
theorem beq_refl_list (a : List UInt8) : (a == a) = true := by simp
theorem good_eq (key c : ByteArray) (h t : Int) (r m : ByteArray) (k : Nat) (hk : 100 ≤ k) (hy : key.size ≤ 300) : ∃ b, header_Good.f k key c h t r m = some b ∧ footbridgeref13_Good.f k key c h t r m = some b := by
  obtain ⟨⟨x1, x2, x3, x4, x5, x6⟩, h1, h2, h3⟩ := sign_eq key c h t r m k hk hy
  unfold header_Good.f footbridgeref13_Good.f
  rw [h1, h2]
  simp only [Option.bind_some]
  by_cases he : x6 = 0
  · obtain ⟨e1, e2, e3, e4, e5⟩ := h3 he
    simp only at e1 e2 e3 e4 e5
    subst e1 e2 e3 e4
    rw [if_pos he, if_pos he, same_f _ _ k (by omega) (by omega), Option.bind_some]
    cases hb : (x5.toList == m.toList) with
    | true => exact ⟨_, rfl, rfl⟩
    | false =>
      rw [if_neg (by decide)]
      exact ⟨_, rfl, by simp⟩
  · rw [if_neg he, if_neg he]
    exact ⟨_, rfl, rfl⟩
theorem signs_j0 (key c : ByteArray) (h t : Int) (r m : ByteArray) (b : Bool) (hb : b = false → key.size ≤ 300) (k : Nat) (hk : 200 ≤ k) : footbridgelaw13_HeaderSigns.j0 k key b c h t r m = some true := by
  obtain ⟨k, rfl⟩ : ∃ q, k = q + 1 := ⟨k - 1, by omega⟩
  rw [footbridgelaw13_HeaderSigns.j0]
  cases b with
  | true => rw [if_pos rfl]; rfl
  | false =>
    obtain ⟨x, h1, h2, _⟩ := sign_eq key c h t r m k (by omega) (hb rfl)
    obtain ⟨y, h3, h4⟩ := good_eq key c h t r m k (by omega) (hb rfl)
    rw [if_neg (by decide), h1, h2, h3, h4]
    simp only [Option.bind_some, if_true]
    rw [if_pos (by simp), if_pos (by simp)]
    rfl
theorem HeaderSigns (key c : ByteArray) (h t : Int) (r m : ByteArray) (k : Nat) (hk : 200 ≤ k) : footbridgelaw13_HeaderSigns.f k key c h t r m = some true := by
  unfold footbridgelaw13_HeaderSigns.f
  by_cases h1 : (key.size : Int) > 300
  · rw [if_pos h1]; exact signs_j0 _ _ _ _ _ _ _ (fun h => by cases h) k hk
  · rw [if_neg h1]
    by_cases h2 : (c.size : Int) > 500
    · rw [if_pos h2]; exact signs_j0 _ _ _ _ _ _ _ (fun h => by cases h) k hk
    · rw [if_neg h2]; exact signs_j0 _ _ _ _ _ _ _ (fun _ => by omega) k hk
end Go.Proofs.Ytipgldfbjlhpoab.Pure
