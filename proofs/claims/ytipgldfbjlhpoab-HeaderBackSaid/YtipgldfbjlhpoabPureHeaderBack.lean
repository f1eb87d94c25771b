/- The plain statement HeaderBack. -/
import Derived.Test.YtipgldfbjlhpoabPureHeader
import Derived.Test.YtipgldfbjlhpoabPureHMac
import Derived.Test.YtipgldfbjlhpoabPLHeaderBack
namespace Go.Proofs.Ytipgldfbjlhpoab.Pure
set_option linter.unusedVariables false
set_option linter.unusedSimpArgs false
open Go.RowKit Go.Proofs.Ytipgldfbjlhpoab.P Go.Proofs.Ytipgldfbjlhpoab.Wire Go.Proofs.Ytipgldfbjlhpoab.Sha Go.Proofs.YtipgldfbjlhpoabW.PrintWords Go.Proofs.YtipgldfbjlhpoabW.PrintLast

/-! ### reading what was laid -/
theorem rd_text (t r : ByteArray) (ht : t.size ≤ 65536) (hr : r.size ≤ 1000000000000) : wire_Reader_Text.f (enc1 t ++ r) 0 = some (t, r, 0) := by
  have hz := enc1_le t ht
  have hs : (enc1 t ++ r).size = (enc1 t).size + r.size := ByteArray.size_append
  unfold wire_Reader_Text.f wire_Reader_stopped.f
  simp only [Option.bind_some]
  rw [if_neg (by decide), text_enc t r ht (by omega)]
  simp only [Option.bind_some]
  rw [take_ok _ _ _ (by omega), rest_append]
  rfl
theorem rd_num (n : Nat) (r : ByteArray) (hn : n ≤ 9007199254740992) : wire_Reader_Num.f (numB n ++ r) 0 = some ((n : Int), r, 0) := by
  have hs : (numB n ++ r).size = (numB n).size + r.size := ByteArray.size_append
  unfold wire_Reader_Num.f wire_Reader_stopped.f wire_number.f
  simp only [Option.bind_some]
  rw [if_neg (by decide), numberS_numB n hn r]
  simp only
  rw [take_ok _ _ _ (by omega), rest_append]
  rfl
theorem read_put (c : ByteArray) (hn tn : Nat) (r m : ByteArray) (h1 : c.size ≤ 65536) (h2 : r.size ≤ 65536) (h3 : m.size ≤ 65536) (h4 : hn ≤ 9007199254740992) (h5 : tn ≤ 9007199254740992) :
    header_Read.f (enc1 c ++ (numB hn ++ (numB tn ++ (enc1 r ++ enc1 m)))) = some (c, (hn : Int), (tn : Int), r, m, 0) := by
  have y1 := enc1_le c h1
  have y2 := enc1_le r h2
  have y3 := enc1_le m h3
  have y4 := size_numB hn h4
  have y5 := size_numB tn h5
  have em : enc1 m = enc1 m ++ (⟨#[]⟩ : ByteArray) := (append_empty _).symm
  unfold header_Read.f wire_New.f
  simp only [Option.bind_some]
  rw [rd_text c _ h1 (by simp only [ByteArray.size_append]; omega)]
  simp only [Option.bind_some]
  rw [rd_num hn _ h4]
  simp only [Option.bind_some]
  rw [rd_num tn _ h5]
  simp only [Option.bind_some]
  rw [rd_text r _ h2 (by omega)]
  simp only [Option.bind_some]
  rw [em, rd_text m _ h3 (by rw [size_none]; omega)]
  simp only [Option.bind_some]
  rw [show wire_Reader_Done.f (⟨#[]⟩ : ByteArray) 0 = some (0, ⟨#[]⟩, 0) by decide +kernel]
  rfl
theorem back_j0 (key c : ByteArray) (h t : Int) (r m : ByteArray) (b : Bool) (hb : b = false → key.size ≤ 300) (k : Nat) (hk : 200 ≤ k) : footbridgelaw13_HeaderBack.j0 k key b c h t r m = some true := by
  obtain ⟨k, rfl⟩ : ∃ q, k = q + 1 := ⟨k - 1, by omega⟩
  rw [footbridgelaw13_HeaderBack.j0]
  cases b with
  | true => rw [if_pos rfl]; rfl
  | false =>
    have hy := hb rfl
    obtain ⟨s, e, h1, h2, hz, hok⟩ := body_f c h t r m k (by omega)
    rw [if_neg (by decide)]
    by_cases he : e = 0
    · subst he
      obtain ⟨hn, tn, z1, z2, rfl, rfl, z3, z4, rfl⟩ := hok rfl
      obtain ⟨M, hM⟩ : ∃ M, M = macB key (enc1 c ++ (numB hn ++ (numB tn ++ enc1 r))) := ⟨_, rfl⟩
      have zM : M.size = 32 := by rw [hM]; exact size_sumB _
      have hb2 : ∀ m', header_body.f c (hn : Int) (tn : Int) r m' = some (enc1 c ++ (numB hn ++ (numB tn ++ enc1 r)), 0) := fun m' => h1
      have hsign : ∀ m', header_Sign.f key c (hn : Int) (tn : Int) r m' = some (c, (hn : Int), (tn : Int), r, M, 0) := by
        intro m'
        unfold header_Sign.f
        rw [hb2 m', Option.bind_some, if_pos rfl, mac_f _ _ (by omega) (by simp only; omega), ← hM]
        rfl
      have yM := enc1_le M (by omega)
      have hput : header_Put.f c (hn : Int) (tn : Int) r M = some (enc1 c ++ (numB hn ++ (numB tn ++ (enc1 r ++ enc1 M))), 0) := by
        unfold header_Put.f
        rw [hb2 M, text_f M (by omega)]
        simp only [Option.bind_some]
        rw [add_ok _ _ _ (by omega)]
        simp only [Option.bind_some, if_true, ByteArray.append_assoc]
      rw [hsign m]
      simp only [Option.bind_some, if_true]
      rw [hput]
      simp only [Option.bind_some]
      rw [read_put c hn tn r M z1 z2 (by omega) z3 z4, h2]
      simp only [Option.bind_some, if_true]
      rw [if_pos (by simp)]
      have hgood : header_Good.f k key c (hn : Int) (tn : Int) r M = some true := by
        unfold header_Good.f
        rw [hsign M, Option.bind_some, if_pos rfl, same_f _ _ k (by simp only; omega) (by simp only; omega), Option.bind_some, if_pos (by simp)]
        simp
      rw [hgood]
      simp only [Option.bind_some, if_true]
      rw [rmac_f k key _ (by omega) hy (by omega), ← hM]
      simp only [Option.bind_some, if_true]
      rfl
    · have hsign : header_Sign.f key c h t r m = some (⟨#[]⟩, 0, 0, ⟨#[]⟩, ⟨#[]⟩, e) := by
        unfold header_Sign.f
        rw [h1, Option.bind_some, if_neg he]
      rw [hsign]
      simp only [Option.bind_some]
      rw [if_neg he, if_pos (by decide +kernel)]
      rfl
theorem HeaderBack (key c : ByteArray) (h t : Int) (r m : ByteArray) (k : Nat) (hk : 200 ≤ k) : footbridgelaw13_HeaderBack.f k key c h t r m = some true := by
  unfold footbridgelaw13_HeaderBack.f
  by_cases h1 : (key.size : Int) > 300
  · rw [if_pos h1]; exact back_j0 _ _ _ _ _ _ _ (fun h => by cases h) k hk
  · rw [if_neg h1]
    by_cases h2 : (c.size : Int) > 500
    · rw [if_pos h2]; exact back_j0 _ _ _ _ _ _ _ (fun h => by cases h) k hk
    · rw [if_neg h2]; exact back_j0 _ _ _ _ _ _ _ (fun _ => by omega) k hk
end Go.Proofs.Ytipgldfbjlhpoab.Pure
