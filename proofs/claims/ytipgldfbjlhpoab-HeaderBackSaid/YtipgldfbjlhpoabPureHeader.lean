/- The plain side of layer 13: bodies of headers. -/
import Derived.Test.YtipgldfbjlhpoabPHeader
import Derived.Test.YtipgldfbjlhpoabPR13
import Derived.Test.YtipgldfbjlhpoabPureBack
namespace Go.Proofs.Ytipgldfbjlhpoab.Pure
set_option linter.unusedVariables false
set_option linter.unusedSimpArgs false
open Go.RowKit Go.Proofs.Ytipgldfbjlhpoab.P Go.Proofs.Ytipgldfbjlhpoab.Wire Go.Proofs.Ytipgldfbjlhpoab.Sha Go.Proofs.YtipgldfbjlhpoabW.PrintWords Go.Proofs.YtipgldfbjlhpoabW.PrintLast

theorem text_f (s : ByteArray) (hs : s.size ≤ 65536) : wire_Text.f s = some (enc1 s, 0) := by
  unfold wire_Text.f
  rw [if_neg (by omega), num_f _ (by omega), Option.bind_some, if_pos (by have := size_numB s.size (by omega); simp only; omega)]
  rfl
theorem enc1_le (s : ByteArray) (hs : s.size ≤ 65536) : (enc1 s).size ≤ s.size + 9 := by
  rw [size_enc1]
  have := size_numB s.size (by omega)
  omega
theorem text_either (s : ByteArray) : wire_Text.f s = some (⟨#[]⟩, 4) ∨ (s.size ≤ 65536 ∧ wire_Text.f s = some (enc1 s, 0)) := lay_text_cases s
theorem num_either (a : Int) : wire_Num.f a = some (⟨#[]⟩, 3) ∨ (∃ n : Nat, a = (n : Int) ∧ n ≤ 9007199254740992 ∧ wire_Num.f a = some (numB n, 0)) := by
  by_cases h : a < 0 ∨ 9007199254740992 < a
  · left
    unfold wire_Num.f
    rw [if_pos h]
  · right
    obtain ⟨n, rfl⟩ := Int.eq_ofNat_of_zero_le (show 0 ≤ a by omega)
    exact ⟨n, rfl, by omega, num_f n (by omega)⟩
theorem add_ok (s a : ByteArray) (e : Int) (h : s.size + a.size ≤ 9223372036854775807) : header_writer_add.f s 0 a e = some (s ++ a, e) := by
  unfold header_writer_add.f
  rw [if_pos rfl, if_pos h]
theorem add_err (s a : ByteArray) (e x : Int) (h : e ≠ 0) : header_writer_add.f s e a x = some (s, e) := by
  unfold header_writer_add.f
  rw [if_neg h]
theorem empty_append (a : ByteArray) : (⟨#[]⟩ : ByteArray) ++ a = a := ByteArray.empty_append
theorem append_empty (a : ByteArray) : a ++ (⟨#[]⟩ : ByteArray) = a := ByteArray.append_empty
theorem size_none : (⟨#[]⟩ : ByteArray).size = 0 := rfl
/-- What a header's body is: the bytes, or the error; both programs tell the same. -/
theorem body_f (c : ByteArray) (h t : Int) (r m : ByteArray) (k : Nat) (hk : 12 ≤ k) : ∃ (s : ByteArray) (e : Int), header_body.f c h t r m = some (s, e) ∧ footbridgeref13_Body.f k c h t r m = some (if e = 0 then s else ⟨#[]⟩, e) ∧ s.size ≤ 200000 ∧
    (e = 0 → ∃ hn tn : Nat, c.size ≤ 65536 ∧ r.size ≤ 65536 ∧ h = (hn : Int) ∧ t = (tn : Int) ∧ hn ≤ 9007199254740992 ∧ tn ≤ 9007199254740992 ∧ s = enc1 c ++ (numB hn ++ (numB tn ++ enc1 r))) := by
  have herr : ∀ (s : ByteArray) (e : Int), e ≠ 0 → (if e = 0 then s else (⟨#[]⟩ : ByteArray)) = ⟨#[]⟩ := fun s e h => if_neg h
  unfold header_body.f footbridgeref13_Body.f footbridgeref13_text.f footbridgeref13_num.f
  rw [lay_text _ k hk, lay_text _ k hk, rlay_f _ k hk, rlay_f _ k hk]
  obtain ⟨xt, hxt⟩ : ∃ x, wire_Num.f t = some x := by rcases num_either t with h | ⟨_, _, _, h⟩ <;> exact ⟨_, h⟩
  obtain ⟨xh, hxh⟩ : ∃ x, wire_Num.f h = some x := by rcases num_either h with h | ⟨_, _, _, h⟩ <;> exact ⟨_, h⟩
  obtain ⟨xr, hxr⟩ : ∃ x, wire_Text.f r = some x := by rcases text_either r with h | ⟨_, h⟩ <;> exact ⟨_, h⟩
  rcases text_either c with h1 | ⟨z1, h1⟩
  · rw [h1, hxh, hxt, hxr]
    simp only [Option.bind_some]
    rw [add_ok _ _ _ (by decide)]
    simp only [Option.bind_some]
    rw [add_err _ _ 4 _ (by decide)]
    simp only [Option.bind_some]
    rw [add_err _ _ 4 _ (by decide)]
    simp only [Option.bind_some]
    rw [add_err _ _ 4 _ (by decide)]
    refine ⟨_, 4, rfl, ?_, by decide, fun h => by cases h⟩
    simp [mx]
  · have y1 := enc1_le c z1
    rw [h1]
    simp only [Option.bind_some]
    rw [add_ok _ _ _ (by rw [size_none]; omega), empty_append]
    simp only [Option.bind_some, if_true]
    rw [if_pos (by rw [size_none]; omega)]
    simp only [Option.bind_some, if_true, empty_append]
    rcases num_either h with h2 | ⟨hn, rfl, z2, h2⟩
    · rw [h2, hxt, hxr]
      simp only [Option.bind_some]
      rw [add_ok _ _ _ (by rw [size_none]; omega), append_empty]
      simp only [Option.bind_some]
      rw [add_err _ _ 3 _ (by decide)]
      simp only [Option.bind_some]
      rw [add_err _ _ 3 _ (by decide)]
      refine ⟨_, 3, rfl, ?_, by omega, fun h => by cases h⟩
      simp
    · have y2 := size_numB hn z2
      rw [h2]
      simp only [Option.bind_some]
      rw [add_ok _ _ _ (by omega)]
      simp only [Option.bind_some, if_true]
      rw [if_pos (by omega)]
      simp only [Option.bind_some, if_true]
      have y2' : (enc1 c ++ numB hn).size = (enc1 c).size + (numB hn).size := ByteArray.size_append
      rcases num_either t with h3 | ⟨tn, rfl, z3, h3⟩
      · rw [h3, hxr]
        simp only [Option.bind_some]
        rw [add_ok _ _ _ (by rw [size_none]; omega), append_empty]
        simp only [Option.bind_some]
        rw [add_err _ _ 3 _ (by decide)]
        refine ⟨_, 3, rfl, ?_, by omega, fun h => by cases h⟩
        simp
      · have y3 := size_numB tn z3
        rw [h3]
        simp only [Option.bind_some]
        rw [add_ok _ _ _ (by omega)]
        simp only [Option.bind_some, if_true]
        rw [if_pos (by omega)]
        simp only [Option.bind_some, if_true]
        have y3' : (enc1 c ++ numB hn ++ numB tn).size = (enc1 c ++ numB hn).size + (numB tn).size := ByteArray.size_append
        rcases text_either r with h4 | ⟨z4, h4⟩
        · rw [h4]
          simp only [Option.bind_some]
          rw [add_ok _ _ _ (by rw [size_none]; omega), append_empty]
          refine ⟨_, 4, rfl, ?_, by omega, fun h => by cases h⟩
          simp [mx]
        · have y4 := enc1_le r z4
          rw [h4]
          simp only [Option.bind_some]
          rw [add_ok _ _ _ (by omega)]
          simp only [if_true]
          rw [if_pos (by omega)]
          refine ⟨_, 0, rfl, ?_, by rw [ByteArray.size_append]; omega, fun _ => ⟨hn, tn, z1, z4, rfl, rfl, z2, z3, ?_⟩⟩
          · simp
          · simp only [ByteArray.append_assoc]
end Go.Proofs.Ytipgldfbjlhpoab.Pure
