/- The plain side of WireBack: texts and lists. -/
import Derived.Test.YtipgldfbjlhpoaaPureBack0
import Derived.Lib.IndexBytes
namespace Go.Proofs.Ytipgldfbjlhpoaa.Pure
set_option linter.unusedVariables false
set_option linter.unusedSimpArgs false
open Go.RowKit Go.Proofs.Ytipgldfbjlhpoaa.P Go.Proofs.Ytipgldfbjlhpoaa.Wire Go.Proofs.YtipgldfbjlhpoaaW.PrintWords Go.Proofs.YtipgldfbjlhpoaaW.PrintLast

theorem bytes_ext {a b : ByteArray} (h : a.data.toList = b.data.toList) : a = b := by
  cases a
  cases b
  congr 1
  exact Array.toList_inj.mp h
def enc1 (t : ByteArray) : ByteArray := numB t.size ++ t
def encs : List ByteArray → ByteArray
  | [] => ⟨#[]⟩
  | t :: l => enc1 t ++ encs l
theorem append_none (a : ByteArray) : a ++ (⟨#[]⟩ : ByteArray) = a := ByteArray.append_empty
theorem none_append (a : ByteArray) : (⟨#[]⟩ : ByteArray) ++ a = a := ByteArray.empty_append
theorem size_enc1 (t : ByteArray) : (enc1 t).size = (numB t.size).size + t.size := ByteArray.size_append
theorem rest_append (a b : ByteArray) : (a ++ b).extract a.size (a ++ b).size = b := by
  apply bytes_ext
  rw [Lib.extract_to_end, ByteArray.data_append, Array.toList_append]
  have : a.data.toList.length = a.size := by rw [Array.length_toList]; rfl
  rw [← this, List.drop_left]
theorem front_append (a b : ByteArray) : (a ++ b).extract 0 a.size = a := by
  apply bytes_ext
  rw [ByteArray.data_extract]
  simp
  exact List.take_of_length_le (by rw [Array.length_toList]; exact Nat.le_refl _)
theorem split_at (s : ByteArray) (a : Nat) (h : a ≤ s.size) : s = s.extract 0 a ++ s.extract a s.size := by
  apply bytes_ext
  rw [ByteArray.data_append, Array.toList_append, Lib.extract_to_end, ByteArray.data_extract]
  simp
/-- A text's bytes, ahead of others, are told as that text. -/
theorem text_enc (t r : ByteArray) (ht : t.size ≤ 65536) (hr : r.size ≤ 1000000000000000) : wire_text.f (enc1 t ++ r) = some (t, ((enc1 t).size : Int), 0) := by
  have hz := size_numB t.size (by omega)
  have he := size_enc1 t
  have hs : (enc1 t ++ r).size = (enc1 t).size + r.size := ByteArray.size_append
  have hn : numberS (enc1 t ++ r) = ((t.size : Int), ((numB t.size).size : Int), 0) := by
    unfold enc1
    rw [ByteArray.append_assoc]
    exact numberS_numB t.size (by omega) _
  have hx : (enc1 t ++ r).extract (numB t.size).size ((numB t.size).size + t.size) = t := by
    apply bytes_ext
    rw [ByteArray.data_extract]
    unfold enc1
    simp only [ByteArray.data_append, Array.toList_extract, Array.toList_append, List.append_assoc]
    have l1 : (numB t.size).data.toList.length = (numB t.size).size := by rw [Array.length_toList]; rfl
    have l2 : t.data.toList.length = t.size := by rw [Array.length_toList]; rfl
    rw [List.extract_eq_take_drop, Array.toList_append, Array.toList_append, List.append_assoc, ← l1, List.drop_left, show (numB t.size).data.toList.length + t.size - (numB t.size).data.toList.length = t.size by omega, ← l2, List.take_left]
  have c1 : ¬ (t.size : Int) > 65536 := by omega
  have c2 : ¬ (t.size : Int) > ((enc1 t ++ r).size : Int) - ((numB t.size).size : Int) := by omega
  have c3 : (0 : Int) ≤ ((numB t.size).size : Int) := by omega
  have c4 : ((numB t.size).size : Int) ≤ ((((numB t.size).size + t.size : Nat)) : Int) := by omega
  have c5 : ((((numB t.size).size + t.size : Nat)) : Int) ≤ ((enc1 t ++ r).size : Int) := by omega
  have w1 : wrap64 (((enc1 t ++ r).size : Int) - ((numB t.size).size : Int)) = ((enc1 t ++ r).size : Int) - ((numB t.size).size : Int) := w64 (by omega) (by omega)
  have w2 : wrap64 (((numB t.size).size : Int) + (t.size : Int)) = (((numB t.size).size + t.size : Nat) : Int) := by rw [w64 (by clear w1; omega) (by clear w1; omega)]; clear w1; omega
  unfold wire_text.f wire_number.f
  rw [hn]
  simp only [Option.bind_some, if_true, if_neg c1, w1, if_neg c2, w2, if_pos c3, if_pos c4, if_pos c5, Int.toNat_natCast, hx, he]
/-- Bytes that are told as a text are that text's. -/
theorem text_canon (s : ByteArray) (hs : s.size ≤ 1000000000000000) : (∃ e : Int, e ≠ 0 ∧ wire_text.f s = some (⟨#[]⟩, 0, e)) ∨ (∃ (t : ByteArray) (z : Nat), z ≤ s.size ∧ wire_text.f s = some (t, (z : Int), 0) ∧ s.extract 0 z = enc1 t ∧ t.size ≤ 65536) := by
  unfold wire_text.f wire_number.f
  rcases numberS_cases s with ⟨e2, h2, hn⟩ | ⟨n, a, hn, h1, h8, ha, hm⟩
  · rw [hn]
    refine .inl ⟨e2, h2, ?_⟩
    simp only [Option.bind_some, if_neg h2]
  · have hcan := numB_canon s n a hn
    rw [hn]
    by_cases hbig : (n : Int) > 65536
    · exact .inl ⟨4, by decide, by simp only [Option.bind_some, if_true, if_pos hbig]⟩
    · by_cases hcut : s.size - a < n
      · have d1 : (n : Int) > (s.size : Int) - (a : Int) := by omega
        refine .inl ⟨5, by decide, ?_⟩
        simp only [Option.bind_some, if_true, if_neg hbig, w64 (show 0 ≤ (s.size : Int) - (a : Int) by omega) (by omega), if_pos d1]
      · have d1 : ¬ (n : Int) > (s.size : Int) - (a : Int) := by omega
        have c1 : (0 : Int) ≤ (a : Int) := by omega
        have c2 : (a : Int) ≤ ((a + n : Nat) : Int) := by omega
        have d3 : ((a + n : Nat) : Int) ≤ (s.size : Int) := by omega
        have d5 : a + n ≤ s.size := by omega
        have d6 : n ≤ 65536 := by omega
        have hz : (s.extract a (a + n)).size = n := by rw [ByteArray.size_extract]; omega
        have hx : s.extract 0 (a + n) = enc1 (s.extract a (a + n)) := by
          unfold enc1
          rw [hz, ← hcan]
          apply bytes_ext
          rw [ByteArray.data_append, Array.toList_append, ByteArray.data_extract, ByteArray.data_extract, ByteArray.data_extract]
          simp only [Array.toList_extract, List.extract_eq_take_drop, Nat.sub_zero, List.drop_zero, show a + n - a = n by omega]
          rw [List.take_add]
        have w1 : wrap64 ((s.size : Int) - (a : Int)) = (s.size : Int) - (a : Int) := w64 (by omega) (by omega)
        have w2 : wrap64 ((a : Int) + (n : Int)) = ((a + n : Nat) : Int) := by rw [w64 (by clear w1; omega) (by clear w1; omega)]; clear w1; omega
        refine .inr ⟨s.extract a (a + n), a + n, d5, ?_, hx, by rw [hz]; exact d6⟩
        simp only [Option.bind_some, if_true, if_neg hbig, w1, if_neg d1, w2, if_pos c1, if_pos c2, if_pos d3, Int.toNat_natCast]
/-- Join: an error, or the texts' bytes one behind the other. -/
theorem join_l0_is (l : List ByteArray) (hl : l.length ≤ 300) : ∀ (d k i : Nat) (out : ByteArray), i + d = l.length → d < k → out.size ≤ 100 + i * 70000 →
    wire_Join.l0 k out l (l.length : Int) (i : Int) = some (⟨#[]⟩, 4) ∨ ((∀ t ∈ l.drop i, t.size ≤ 65536) ∧ (encs (l.drop i)).size ≤ d * 70000 ∧ wire_Join.l0 k out l (l.length : Int) (i : Int) = some (out ++ encs (l.drop i), 0)) := by
  intro d
  induction d with
  | zero =>
    intro k i out hi hk ho
    obtain ⟨k, rfl⟩ : ∃ q, k = q + 1 := ⟨k - 1, by omega⟩
    have c1 : ¬ (i : Int) < (l.length : Int) := by omega
    have hd : l.drop i = [] := List.drop_eq_nil_of_le (by omega)
    refine .inr ⟨by rw [hd]; simp, by rw [hd]; exact Nat.zero_le _, ?_⟩
    rw [wire_Join.l0, if_neg c1, hd, encs, append_none]
  | succ d ih =>
    intro k i out hi hk ho
    obtain ⟨k, rfl⟩ : ∃ q, k = q + 1 := ⟨k - 1, by omega⟩
    have c1 : (i : Int) < (l.length : Int) := by omega
    have c0 : 0 ≤ (i : Int) := by omega
    have hil : i < l.length := by omega
    have hd : l.drop i = l[i] :: l.drop (i + 1) := List.drop_eq_getElem_cons hil
    have hrd : rdOf ByteArray.empty l (i : Int) = l[i] := by
      unfold rdOf
      rw [Int.toNat_natCast, List.getD_eq_getElem?_getD, List.getElem?_eq_getElem hil]
      rfl
    rw [wire_Join.l0, hrd]
    simp only [if_pos c1, if_pos c0]
    rcases lay_text_cases l[i] with h | ⟨hs, h⟩
    · refine .inl ?_
      simp only [h, Option.bind_some, if_neg (show ¬ (4 : Int) = 0 by decide)]
    · have hz := size_numB l[i].size (by omega)
      have hz2 := size_enc1 l[i]
      have h' : wire_Text.f l[i] = some (enc1 l[i], 0) := h
      have hc : out.size + (enc1 l[i]).size ≤ 9223372036854775807 := by omega
      have hnext := ih k (i + 1) (out ++ enc1 l[i]) (by omega) (by omega) (by rw [ByteArray.size_append]; omega)
      have w : wrap64 ((i : Int) + 1) = ((i + 1 : Nat) : Int) := by rw [w64 (by omega) (by omega)]; omega
      simp only [h', Option.bind_some, if_true, if_pos hc, w]
      rcases hnext with h1 | ⟨h1, h2, h3⟩
      · exact .inl h1
      · refine .inr ⟨?_, ?_, ?_⟩
        · rw [hd]
          intro t ht
          rcases List.mem_cons.mp ht with rfl | ht
          · exact hs
          · exact h1 t ht
        · rw [hd, encs, ByteArray.size_append]
          clear w
          omega
        · rw [h3, hd, encs, ByteArray.append_assoc]
theorem join_is (l : List ByteArray) (k : Nat) (hk : 400 ≤ k) (hl : l.length ≤ 256) : wire_Join.f k l = some (⟨#[]⟩, 4) ∨ ((∀ t ∈ l, t.size ≤ 65536) ∧ (encs l).size ≤ 17920000 ∧ wire_Join.f k l = some (numB l.length ++ encs l, 0)) := by
  unfold wire_Join.f
  rw [if_neg (by omega), num_f _ (by omega), Option.bind_some]
  have hz := size_numB l.length (by omega)
  rcases join_l0_is l (by omega) l.length k 0 (numB l.length) (by omega) (by omega) (by omega) with h | ⟨h1, h2, h3⟩
  · exact .inl h
  · refine .inr ⟨h1, ?_, h3⟩
    rw [List.drop_zero] at h2
    omega
theorem join_ok (l : List ByteArray) (k : Nat) (hk : 400 ≤ k) (hl : l.length ≤ 256) (ht : ∀ t ∈ l, t.size ≤ 65536) : wire_Join.f k l = some (numB l.length ++ encs l, 0) := by
  unfold wire_Join.f
  rw [if_neg (by omega), num_f _ (by omega), Option.bind_some]
  have hz := size_numB l.length (by omega)
  have key : ∀ (d k i : Nat) (out : ByteArray), i + d = l.length → d < k → out.size ≤ 100 + i * 70000 → wire_Join.l0 k out l (l.length : Int) (i : Int) = some (out ++ encs (l.drop i), 0) := by
    intro d
    induction d with
    | zero =>
      intro k i out hi hk ho
      rcases join_l0_is l (by omega) 0 k i out hi hk ho with h | ⟨_, _, h⟩
      · exfalso
        obtain ⟨k, rfl⟩ : ∃ q, k = q + 1 := ⟨k - 1, by omega⟩
        rw [wire_Join.l0, if_neg (by omega)] at h
        simp at h
      · exact h
    | succ d ih =>
      intro k i out hi hk ho
      obtain ⟨k, rfl⟩ : ∃ q, k = q + 1 := ⟨k - 1, by omega⟩
      have c1 : (i : Int) < (l.length : Int) := by omega
      have c0 : 0 ≤ (i : Int) := by omega
      have hil : i < l.length := by omega
      have hd : l.drop i = l[i] :: l.drop (i + 1) := List.drop_eq_getElem_cons hil
      have hrd : rdOf ByteArray.empty l (i : Int) = l[i] := by
        unfold rdOf
        rw [Int.toNat_natCast, List.getD_eq_getElem?_getD, List.getElem?_eq_getElem hil]
        rfl
      have hsz : l[i].size ≤ 65536 := ht _ (List.getElem_mem hil)
      have h' : wire_Text.f l[i] = some (enc1 l[i], 0) := by
        unfold wire_Text.f
        rw [if_neg (by omega), num_f _ (by omega), Option.bind_some, if_pos (by have := size_numB l[i].size (by omega); simp only; omega)]
        rfl
      have hz := size_numB l[i].size (by omega)
      have hz2 := size_enc1 l[i]
      have hc : out.size + (enc1 l[i]).size ≤ 9223372036854775807 := by omega
      have hnext := ih k (i + 1) (out ++ enc1 l[i]) (by omega) (by omega) (by rw [ByteArray.size_append]; omega)
      have w : wrap64 ((i : Int) + 1) = ((i + 1 : Nat) : Int) := by rw [w64 (by omega) (by omega)]; omega
      rw [wire_Join.l0, hrd]
      simp only [if_pos c1, if_pos c0, h', Option.bind_some, if_true, if_pos hc, w, hnext]
      rw [hd, encs, ByteArray.append_assoc]
  exact key l.length k 0 (numB l.length) (by omega) (by omega) (by omega)
end Go.Proofs.Ytipgldfbjlhpoaa.Pure
