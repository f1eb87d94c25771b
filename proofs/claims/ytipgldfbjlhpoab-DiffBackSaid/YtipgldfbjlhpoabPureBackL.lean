/- The plain side of laying lists. -/
import Derived.Test.YtipgldfbjlhpoabPureBack
import Derived.Test.YtipgldfbjlhpoabPWireL
import Derived.Test.YtipgldfbjlhpoabPRWireL
import Derived.Lib.IndexBytes
namespace Go.Proofs.Ytipgldfbjlhpoab.Pure
set_option linter.unusedVariables false
set_option linter.unusedSimpArgs false
open Go.RowKit Go.Proofs.Ytipgldfbjlhpoab.P Go.Proofs.Ytipgldfbjlhpoab.Wire Go.Proofs.YtipgldfbjlhpoabW.PrintWords Go.Proofs.YtipgldfbjlhpoabW.PrintLast

theorem join_l0 (l : List ByteArray) (hl : l.length ≤ 300) : ∀ (d k k' i : Nat) (out : ByteArray), i + d = l.length → d < k → d + 14 ≤ k' → out.size ≤ 100 + i * 70000 →
    ∃ r, wire_Join.l0 k out l (l.length : Int) (i : Int) = some r ∧ footbridgeref01_Join.l0 k' l out (i : Int) = some r := by
  intro d
  induction d with
  | zero =>
    intro k k' i out hi hk hk' ho
    obtain ⟨k, rfl⟩ : ∃ q, k = q + 1 := ⟨k - 1, by omega⟩
    obtain ⟨k', rfl⟩ : ∃ q, k' = q + 1 := ⟨k' - 1, by omega⟩
    have c1 : ¬ (i : Int) < (l.length : Int) := by omega
    rw [wire_Join.l0, footbridgeref01_Join.l0]
    simp only [if_neg c1]
    exact ⟨_, rfl, rfl⟩
  | succ d ih =>
    intro k k' i out hi hk hk' ho
    obtain ⟨k, rfl⟩ : ∃ q, k = q + 1 := ⟨k - 1, by omega⟩
    obtain ⟨k', rfl⟩ : ∃ q, k' = q + 1 := ⟨k' - 1, by omega⟩
    have c1 : (i : Int) < (l.length : Int) := by omega
    have c0 : 0 ≤ (i : Int) := by omega
    rw [wire_Join.l0, footbridgeref01_Join.l0, lay_text _ k' (by omega)]
    simp only [if_pos c1, if_pos c0]
    generalize rdOf ByteArray.empty l (i : Int) = t
    rcases lay_text_cases t with h | ⟨hs, h⟩
    · simp only [h, Option.bind_some, if_neg (show ¬ (4 : Int) = 0 by decide)]
      exact ⟨_, rfl, rfl⟩
    · have hz := size_numB t.size (by omega)
      have hz2 : (numB t.size ++ t).size = (numB t.size).size + t.size := ByteArray.size_append
      have hc : out.size + (numB t.size ++ t).size ≤ 9223372036854775807 := by omega
      obtain ⟨r, h1, h2⟩ := ih k k' (i + 1) (out ++ (numB t.size ++ t)) (by omega) (by omega) (by omega) (by rw [ByteArray.size_append]; omega)
      have w : wrap64 ((i : Int) + 1) = ((i + 1 : Nat) : Int) := by rw [w64 (by omega) (by omega)]; omega
      simp only [h, Option.bind_some, if_true, if_pos hc, w]
      exact ⟨r, h1, h2⟩
theorem join_f (l : List ByteArray) (k : Nat) (hk : 400 ≤ k) : ∃ r, wire_Join.f k l = some r ∧ footbridgeref01_Join.f k l = some r := by
  unfold wire_Join.f footbridgeref01_Join.f
  by_cases h : (l.length : Int) > 256
  · simp only [if_pos h]; exact ⟨_, rfl, rfl⟩
  · rw [rlay_f _ k (by omega), num_f _ (by omega)]
    simp only [if_neg h, Option.bind_some]
    exact join_l0 l (by omega) l.length k k 0 (numB l.length) (by omega) (by omega) (by omega) (by have := size_numB l.length (by omega); omega)
/-- Join: an error, or the texts' bytes one behind the other. -/
theorem join_l0_is (l : List ByteArray) (hl : l.length ≤ 300) : ∀ (d k i : Nat) (out : ByteArray), i + d = l.length → d < k → out.size ≤ 100 + i * 70000 →
    wire_Join.l0 k out l (l.length : Int) (i : Int) = some (⟨#[]⟩, 4) ∨ ((∀ t ∈ l.drop i, t.size ≤ 65536) ∧ (encs (l.drop i)).size ≤ d * 70000 ∧ wire_Join.l0 k out l (l.length : Int) (i : Int) = some (out ++ encs (l.drop i), 0)) := by
  intro d
  induction d with
  | zero =>
    intro k i out hi hk ho
    obtain ⟨k, rfl⟩ : ∃ q, k = q + 1 := ⟨k - 1, by omega⟩
    have c1 : ¬ (i : Int) < (l.length : Int) := by omega
    have hd : l.drop i = [] := List.drop_eq_nil_of_le (by omega)
    refine .inr ⟨by rw [hd]; simp, by rw [hd]; exact Nat.zero_le _, ?_⟩
    rw [wire_Join.l0, if_neg c1, hd, encs, append_none]
  | succ d ih =>
    intro k i out hi hk ho
    obtain ⟨k, rfl⟩ : ∃ q, k = q + 1 := ⟨k - 1, by omega⟩
    have c1 : (i : Int) < (l.length : Int) := by omega
    have c0 : 0 ≤ (i : Int) := by omega
    have hil : i < l.length := by omega
    have hd : l.drop i = l[i] :: l.drop (i + 1) := List.drop_eq_getElem_cons hil
    have hrd : rdOf ByteArray.empty l (i : Int) = l[i] := by
      unfold rdOf
      rw [Int.toNat_natCast, List.getD_eq_getElem?_getD, List.getElem?_eq_getElem hil]
      rfl
    rw [wire_Join.l0, hrd]
    simp only [if_pos c1, if_pos c0]
    rcases lay_text_cases l[i] with h | ⟨hs, h⟩
    · refine .inl ?_
      simp only [h, Option.bind_some, if_neg (show ¬ (4 : Int) = 0 by decide)]
    · have hz := size_numB l[i].size (by omega)
      have hz2 := size_enc1 l[i]
      have h' : wire_Text.f l[i] = some (enc1 l[i], 0) := h
      have hc : out.size + (enc1 l[i]).size ≤ 9223372036854775807 := by omega
      have hnext := ih k (i + 1) (out ++ enc1 l[i]) (by omega) (by omega) (by rw [ByteArray.size_append]; omega)
      have w : wrap64 ((i : Int) + 1) = ((i + 1 : Nat) : Int) := by rw [w64 (by omega) (by omega)]; omega
      simp only [h', Option.bind_some, if_true, if_pos hc, w]
      rcases hnext with h1 | ⟨h1, h2, h3⟩
      · exact .inl h1
      · refine .inr ⟨?_, ?_, ?_⟩
        · rw [hd]
          intro t ht
          rcases List.mem_cons.mp ht with rfl | ht
          · exact hs
          · exact h1 t ht
        · rw [hd, encs, ByteArray.size_append]
          clear w
          omega
        · rw [h3, hd, encs, ByteArray.append_assoc]
theorem join_is (l : List ByteArray) (k : Nat) (hk : 400 ≤ k) (hl : l.length ≤ 256) : wire_Join.f k l = some (⟨#[]⟩, 4) ∨ ((∀ t ∈ l, t.size ≤ 65536) ∧ (encs l).size ≤ 17920000 ∧ wire_Join.f k l = some (numB l.length ++ encs l, 0)) := by
  unfold wire_Join.f
  rw [if_neg (by omega), num_f _ (by omega), Option.bind_some]
  have hz := size_numB l.length (by omega)
  rcases join_l0_is l (by omega) l.length k 0 (numB l.length) (by omega) (by omega) (by omega) with h | ⟨h1, h2, h3⟩
  · exact .inl h
  · refine .inr ⟨h1, ?_, h3⟩
    rw [List.drop_zero] at h2
    omega
theorem join_ok (l : List ByteArray) (k : Nat) (hk : 400 ≤ k) (hl : l.length ≤ 256) (ht : ∀ t ∈ l, t.size ≤ 65536) : wire_Join.f k l = some (numB l.length ++ encs l, 0) := by
  unfold wire_Join.f
  rw [if_neg (by omega), num_f _ (by omega), Option.bind_some]
  have hz := size_numB l.length (by omega)
  have key : ∀ (d k i : Nat) (out : ByteArray), i + d = l.length → d < k → out.size ≤ 100 + i * 70000 → wire_Join.l0 k out l (l.length : Int) (i : Int) = some (out ++ encs (l.drop i), 0) := by
    intro d
    induction d with
    | zero =>
      intro k i out hi hk ho
      rcases join_l0_is l (by omega) 0 k i out hi hk ho with h | ⟨_, _, h⟩
      · exfalso
        obtain ⟨k, rfl⟩ : ∃ q, k = q + 1 := ⟨k - 1, by omega⟩
        rw [wire_Join.l0, if_neg (by omega)] at h
        simp at h
      · exact h
    | succ d ih =>
      intro k i out hi hk ho
      obtain ⟨k, rfl⟩ : ∃ q, k = q + 1 := ⟨k - 1, by omega⟩
      have c1 : (i : Int) < (l.length : Int) := by omega
      have c0 : 0 ≤ (i : Int) := by omega
      have hil : i < l.length := by omega
      have hd : l.drop i = l[i] :: l.drop (i + 1) := List.drop_eq_getElem_cons hil
      have hrd : rdOf ByteArray.empty l (i : Int) = l[i] := by
        unfold rdOf
        rw [Int.toNat_natCast, List.getD_eq_getElem?_getD, List.getElem?_eq_getElem hil]
        rfl
      have hsz : l[i].size ≤ 65536 := ht _ (List.getElem_mem hil)
      have h' : wire_Text.f l[i] = some (enc1 l[i], 0) := by
        unfold wire_Text.f
        rw [if_neg (by omega), num_f _ (by omega), Option.bind_some, if_pos (by have := size_numB l[i].size (by omega); simp only; omega)]
        rfl
      have hz := size_numB l[i].size (by omega)
      have hz2 := size_enc1 l[i]
      have hc : out.size + (enc1 l[i]).size ≤ 9223372036854775807 := by omega
      have hnext := ih k (i + 1) (out ++ enc1 l[i]) (by omega) (by omega) (by rw [ByteArray.size_append]; omega)
      have w : wrap64 ((i : Int) + 1) = ((i + 1 : Nat) : Int) := by rw [w64 (by omega) (by omega)]; omega
      rw [wire_Join.l0, hrd]
      simp only [if_pos c1, if_pos c0, h', Option.bind_some, if_true, if_pos hc, w, hnext]
      rw [hd, encs, ByteArray.append_assoc]
  exact key l.length k 0 (numB l.length) (by omega) (by omega) (by omega)
end Go.Proofs.Ytipgldfbjlhpoab.Pure
