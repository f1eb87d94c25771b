/- Reading back what was laid, and what was read is what was laid. -/
import Derived.Test.YtipgldfbjlhpoabPureBackL
namespace Go.Proofs.Ytipgldfbjlhpoab.Pure
set_option linter.unusedVariables false
set_option linter.unusedSimpArgs false
open Go.RowKit Go.Proofs.Ytipgldfbjlhpoab.P Go.Proofs.Ytipgldfbjlhpoab.Wire Go.Proofs.YtipgldfbjlhpoabW.PrintWords Go.Proofs.YtipgldfbjlhpoabW.PrintLast

def lstB (l : List ByteArray) : ByteArray := numB l.length ++ encs l
theorem m_text (t r : ByteArray) (ht : t.size ≤ 65536) (hr : r.size ≤ 1000000000000) : wire_Reader_Text.f (enc1 t ++ r) 0 = some (t, r, 0) := by
  have hz := size_numB t.size (by omega)
  have hz1 := size_enc1 t
  have hs : (enc1 t ++ r).size = (enc1 t).size + r.size := ByteArray.size_append
  unfold wire_Reader_Text.f wire_Reader_stopped.f
  simp only [Option.bind_some]
  rw [if_neg (by decide), text_enc t r ht (by omega)]
  simp only [Option.bind_some]
  rw [take_ok _ _ _ (by omega), rest_append]
  rfl
theorem m_num (n : Nat) (r : ByteArray) (hn : n ≤ 9007199254740992) : wire_Reader_Num.f (numB n ++ r) 0 = some ((n : Int), r, 0) := by
  have hs : (numB n ++ r).size = (numB n).size + r.size := ByteArray.size_append
  unfold wire_Reader_Num.f wire_Reader_stopped.f wire_number.f
  simp only [Option.bind_some]
  rw [if_neg (by decide), numberS_numB n hn r]
  simp only
  rw [take_ok _ _ _ (by omega), rest_append]
  rfl
theorem m_list0 (l : List ByteArray) (r : ByteArray) (hl : l.length ≤ 256) (ht : ∀ t ∈ l, t.size ≤ 65536) (s : ByteArray) (hs : s.size ≤ 1000000000000000) : ∀ (d k i a : Nat), i + d = l.length → d + 5 ≤ k → a ≤ s.size → s.extract a s.size = encs (l.drop i) ++ r →
    wire_Reader_List.l0 k (l.length : Int) (a : Int) 0 (l.take i) s 0 = some (l, r, 0) := by
  intro d
  induction d with
  | zero =>
    intro k i a hi hk ha he
    obtain ⟨k, rfl⟩ : ∃ q, k = q + 1 := ⟨k - 1, by omega⟩
    have h1 : l.take i = l := List.take_of_length_le (by omega)
    have h2 : l.drop i = [] := List.drop_eq_nil_of_le (by omega)
    rw [wire_Reader_List.l0, h1, if_pos rfl, if_neg (by omega), take_ok s 0 a ha, Option.bind_some, if_pos rfl, he, h2, encs, none_append]
  | succ d ih =>
    intro k i a hi hk ha he
    obtain ⟨k, rfl⟩ : ∃ q, k = q + 1 := ⟨k - 1, by omega⟩
    have hil : i < l.length := by omega
    have hd : l.drop i = l[i] :: l.drop (i + 1) := List.drop_eq_getElem_cons hil
    have htk : l.take (i + 1) = l.take i ++ [l[i]] := by rw [List.take_add_one, List.getElem?_eq_getElem hil]; rfl
    have htl : (l.take i).length = i := by rw [List.length_take]; omega
    have hsz := size_rest s a
    have he2 : s.extract a s.size = enc1 l[i] ++ (encs (l.drop (i + 1)) ++ r) := by rw [he, hd, encs, ByteArray.append_assoc]
    have hz : s.size - a = (enc1 l[i]).size + (encs (l.drop (i + 1)) ++ r).size := by rw [← hsz, he2, ByteArray.size_append]
    have htx := text_enc l[i] (encs (l.drop (i + 1)) ++ r) (ht _ (List.getElem_mem hil)) (by omega)
    have hrest : s.extract (a + (enc1 l[i]).size) s.size = encs (l.drop (i + 1)) ++ r := by
      rw [← rest_rest s a _ ha, he2, rest_append]
    have this := ih k (i + 1) (a + (enc1 l[i]).size) (by omega) (by omega) (by omega) hrest
    have c1 : ((l.take i).length : Int) < (l.length : Int) := by omega
    have c2 : (0 : Int) ≤ (a : Int) := by omega
    have c3 : (a : Int) ≤ (s.size : Int) := by omega
    have c4 : (l.take i).length < 8796093022208 := by omega
    have w : wrap64 ((a : Int) + ((enc1 l[i]).size : Int)) = ((a + (enc1 l[i]).size : Nat) : Int) := by rw [w64 (by omega) (by omega)]; omega
    rw [wire_Reader_List.l0]
    simp only [if_true, if_pos c1, if_pos c2, if_pos c3, Int.toNat_natCast, he2, htx, Option.bind_some, if_pos c4, w]
    rw [← htk]
    exact this
theorem m_list (l : List ByteArray) (r : ByteArray) (k : Nat) (hk : 400 ≤ k) (hl : l.length ≤ 256) (ht : ∀ t ∈ l, t.size ≤ 65536) (hr : (lstB l ++ r).size ≤ 1000000000000) : wire_Reader_List.f k (lstB l ++ r) 0 = some (l, r, 0) := by
  obtain ⟨k, rfl⟩ : ∃ q, k = q + 2 := ⟨k - 2, by omega⟩
  unfold lstB at *
  rw [ByteArray.append_assoc] at *
  have hz := size_numB l.length (by omega)
  have hs : (numB l.length ++ (encs l ++ r)).size = (numB l.length).size + (encs l ++ r).size := ByteArray.size_append
  have hn := numberS_numB l.length (by omega) (encs l ++ r)
  have hbig : ¬ (l.length : Int) > 256 := by omega
  have h1 := m_list0 l r hl ht (numB l.length ++ (encs l ++ r)) (by omega) l.length k 0 (numB l.length).size (by omega) (by omega) (by omega) (by rw [rest_append]; rfl)
  unfold wire_Reader_List.f wire_Reader_stopped.f wire_number.f
  simp only [Option.bind_some, bne_self_eq_false, Bool.false_eq_true, if_false, hn, if_true, wire_Reader_List.j0, wire_Reader_List.j1, decide_eq_false hbig]
  exact h1
theorem m_encs_snoc (l : List ByteArray) (t : ByteArray) : encs (l ++ [t]) = encs l ++ enc1 t := by
  induction l with
  | nil => simp only [List.nil_append, encs, append_none, none_append]
  | cons a l ih => simp only [List.cons_append, encs, ih, ByteArray.append_assoc]
theorem m_front_more (s : ByteArray) (a z : Nat) (h : a ≤ s.size) : s.extract 0 (a + z) = s.extract 0 a ++ (s.extract a s.size).extract 0 z := by
  apply bytes_ext
  rw [ByteArray.data_append, Array.toList_append, ByteArray.data_extract, ByteArray.data_extract, ByteArray.data_extract]
  simp only [Array.toList_extract, List.extract_eq_take_drop, Nat.sub_zero, List.drop_zero]
  rw [Lib.extract_to_end, List.take_add]
theorem m_list_canon (s : ByteArray) (n : Nat) (hn : n ≤ 256) (hs : s.size ≤ 1000000000000000) : ∀ (d : Nat) (out : List ByteArray) (a k : Nat), out.length + d = n → a ≤ s.size → d + 20 ≤ k → (∀ t ∈ out, t.size ≤ 65536) → s.extract 0 a = numB n ++ encs out →
    ∃ (x : List ByteArray) (st : ByteArray) (e : Int), wire_Reader_List.l0 k (n : Int) (a : Int) 0 out s 0 = some (x, st, e) ∧ (e ≠ 0 ∨ (∃ z : Nat, z ≤ s.size ∧ st = s.extract z s.size ∧ s.extract 0 z = numB n ++ encs x ∧ x.length = n ∧ ∀ t ∈ x, t.size ≤ 65536)) := by
  intro d
  induction d with
  | zero =>
    intro out a k ho ha hk ht he
    obtain ⟨k, rfl⟩ : ∃ q, k = q + 1 := ⟨k - 1, by omega⟩
    refine ⟨out, s.extract a s.size, 0, ?_, .inr ⟨a, ha, rfl, he, by omega, ht⟩⟩
    rw [wire_Reader_List.l0, if_pos rfl, if_neg (by omega), take_ok s 0 a ha]
    rfl
  | succ d ih =>
    intro out a k ho ha hk ht he
    obtain ⟨k, rfl⟩ : ∃ q, k = q + 2 := ⟨k - 2, by omega⟩
    have hsz := size_rest s a
    have c1 : (out.length : Int) < (n : Int) := by omega
    have c2 : (0 : Int) ≤ (a : Int) := by omega
    have c3 : (a : Int) ≤ (s.size : Int) := by omega
    have c4 : out.length < 8796093022208 := by omega
    rcases text_canon (s.extract a s.size) (by omega) with ⟨e2, h2, hi⟩ | ⟨t, z, hz, hi, hx, htz⟩
    · refine ⟨[], s, e2, ?_, .inl h2⟩
      rw [wire_Reader_List.l0]
      simp only [if_true, if_pos c1, if_pos c2, if_pos c3, Int.toNat_natCast, hi, Option.bind_some, if_pos c4]
      rw [wire_Reader_List.l0, if_neg h2, take_bad _ _ _ _ h2]
      rfl
    · have hnew : s.extract 0 (a + z) = numB n ++ encs (out ++ [t]) := by
        rw [m_front_more s a z ha, hx, he, m_encs_snoc, ByteArray.append_assoc]
      obtain ⟨x, st, e, h1, h2⟩ := ih (out ++ [t]) (a + z) (k + 1) (by simp; omega) (by omega) (by omega) (by
        intro u hu
        rcases List.mem_append.mp hu with hu | hu
        · exact ht u hu
        · simp at hu; rw [hu]; exact htz) hnew
      have w : wrap64 ((a : Int) + (z : Int)) = ((a + z : Nat) : Int) := by rw [w64 (by omega) (by omega)]; omega
      refine ⟨x, st, e, ?_, h2⟩
      rw [wire_Reader_List.l0]
      simp only [if_true, if_pos c1, if_pos c2, if_pos c3, Int.toNat_natCast, hi, Option.bind_some, if_pos c4, w]
      exact h1
theorem m_list_canon_f (s : ByteArray) (k : Nat) (hk : 400 ≤ k) (hs : s.size ≤ 1000000000000000) : ∃ (x : List ByteArray) (st : ByteArray) (e : Int), wire_Reader_List.f k s 0 = some (x, st, e) ∧ (e ≠ 0 ∨ (∃ z n : Nat, n ≤ 256 ∧ z ≤ s.size ∧ st = s.extract z s.size ∧ s.extract 0 z = numB n ++ encs x ∧ x.length = n ∧ ∀ t ∈ x, t.size ≤ 65536)) := by
  obtain ⟨k, rfl⟩ : ∃ q, k = q + 3 := ⟨k - 3, by omega⟩
  unfold wire_Reader_List.f wire_Reader_stopped.f wire_number.f
  rcases numberS_cases s with ⟨e2, h2, hn⟩ | ⟨n, a, hn, h1, h8, ha, hm⟩
  · refine ⟨[], s, e2, ?_, .inl h2⟩
    simp only [Option.bind_some, bne_self_eq_false, Bool.false_eq_true, if_false, hn, if_neg h2, wire_Reader_List.j0, wire_Reader_List.j1, wire_Reader_List.l0, take_bad _ _ _ _ h2]
  · by_cases hbig : (n : Int) > 256
    · refine ⟨[], s, 4, ?_, .inl (by decide)⟩
      simp only [Option.bind_some, bne_self_eq_false, Bool.false_eq_true, if_false, hn, if_true, wire_Reader_List.j0, wire_Reader_List.j1, wire_Reader_List.l0, decide_eq_true hbig, if_neg (show ¬ (4 : Int) = 0 by decide), take_bad s 0 (a : Int) 4 (by decide)]
    · obtain ⟨x, st, e, h1, h2⟩ := m_list_canon s n (by omega) hs n [] a (k + 1) (by simp) ha (by omega) (by simp) (by rw [numB_canon s n a hn, encs, append_none])
      refine ⟨x, st, e, ?_, ?_⟩
      · simp only [Option.bind_some, bne_self_eq_false, Bool.false_eq_true, if_false, hn, if_true, wire_Reader_List.j0, wire_Reader_List.j1, decide_eq_false hbig]
        exact h1
      · rcases h2 with h2 | ⟨z, q1, q2, q3, q4, q5⟩
        · exact .inl h2
        · exact .inr ⟨z, n, by omega, q1, q2, q3, q4, q5⟩
theorem m_done_is (s : ByteArray) (e : Int) : ∃ v : Int, wire_Reader_Done.f s e = some (v, s, e) ∧ (v = 0 → e = 0 ∧ s.size = 0) := by
  unfold wire_Reader_Done.f wire_Reader_Err.f
  simp only [Option.bind_some]
  by_cases he : e = 0
  · rw [if_pos he]
    by_cases hs : s.toList = ([] : List UInt8)
    · rw [if_pos hs]; exact ⟨_, rfl, fun _ => ⟨he, (toList_nil s).1 hs⟩⟩
    · rw [if_neg hs]; exact ⟨_, rfl, fun h => absurd h (by decide)⟩
  · rw [if_neg he]; exact ⟨_, rfl, fun h => absurd h he⟩
theorem stop_ne {e : Int} (he : e ≠ 0) : (e != 0) = true := by rw [bne_iff_ne]; exact he
theorem num_inv {s st : ByteArray} {e v e' : Int} (h : wire_Reader_Num.f s e = some (v, st, e')) (h0 : e' = 0) : e = 0 ∧ ∃ n : Nat, n ≤ 9007199254740992 ∧ v = (n : Int) ∧ s = numB n ++ st := by
  subst h0
  unfold wire_Reader_Num.f wire_Reader_stopped.f wire_number.f at h
  simp only [Option.bind_some] at h
  by_cases he : e = 0
  · subst he
    rw [if_neg (by decide)] at h
    rcases numberS_cases s with ⟨e2, h2, hn⟩ | ⟨n, a, hn, h1, h8, ha, hm⟩
    · rw [hn] at h
      simp only at h
      rw [take_bad _ _ _ _ h2] at h
      simp only [Option.bind_some, Option.some.injEq, Prod.mk.injEq] at h
      exact absurd h.2.2 h2
    · have hc := numB_canon s n a hn
      rw [hn] at h
      simp only at h
      rw [take_ok _ _ _ ha] at h
      simp only [Option.bind_some, Option.some.injEq, Prod.mk.injEq] at h
      obtain ⟨rfl, rfl, _⟩ := h
      exact ⟨rfl, n, hm, rfl, by rw [← hc]; exact split_at s a ha⟩
  · rw [if_pos (stop_ne he)] at h
    simp only [Option.some.injEq, Prod.mk.injEq] at h
    exact absurd h.2.2 he
theorem text_inv {s st v : ByteArray} {e e' : Int} (hs : s.size ≤ 1000000000000000) (h : wire_Reader_Text.f s e = some (v, st, e')) : v.size ≤ 65536 ∧ (e' = 0 → e = 0 ∧ s = enc1 v ++ st) := by
  unfold wire_Reader_Text.f wire_Reader_stopped.f at h
  simp only [Option.bind_some] at h
  by_cases he : e = 0
  · subst he
    rw [if_neg (by decide)] at h
    rcases text_canon s hs with ⟨e2, h2, hi⟩ | ⟨t, z, hz, hi, hx, htz⟩
    · rw [hi] at h
      simp only [Option.bind_some] at h
      rw [show (0 : Int) = ((0 : Nat) : Int) from rfl, take_bad _ _ _ _ h2] at h
      simp only [Option.bind_some, Option.some.injEq, Prod.mk.injEq] at h
      obtain ⟨rfl, _, rfl⟩ := h
      exact ⟨by decide, fun h => absurd h h2⟩
    · rw [hi] at h
      simp only [Option.bind_some] at h
      rw [take_ok _ _ _ hz] at h
      simp only [Option.bind_some, Option.some.injEq, Prod.mk.injEq] at h
      obtain ⟨rfl, rfl, rfl⟩ := h
      exact ⟨htz, fun _ => ⟨rfl, by rw [← hx]; exact split_at s z hz⟩⟩
  · rw [if_pos (stop_ne he)] at h
    simp only [Option.some.injEq, Prod.mk.injEq] at h
    obtain ⟨rfl, _, rfl⟩ := h
    exact ⟨by decide, fun h => absurd h he⟩
theorem list_inv {s st : ByteArray} {v : List ByteArray} {e e' : Int} {k : Nat} (hk : 400 ≤ k) (hs : s.size ≤ 1000000000000000) (h : wire_Reader_List.f k s e = some (v, st, e')) (h0 : e' = 0) : e = 0 ∧ s = lstB v ++ st ∧ v.length ≤ 256 ∧ ∀ t ∈ v, t.size ≤ 65536 := by
  subst h0
  by_cases he : e = 0
  · subst he
    obtain ⟨x, st', e2, h1, h2⟩ := m_list_canon_f s k hk hs
    rw [h1] at h
    simp only [Option.some.injEq, Prod.mk.injEq] at h
    obtain ⟨rfl, rfl, rfl⟩ := h
    rcases h2 with h2 | ⟨z, n, q0, q1, q2, q3, q4, q5⟩
    · exact absurd rfl h2
    · refine ⟨rfl, ?_, by omega, q5⟩
      unfold lstB
      rw [q4, ← q3, q2]
      exact split_at s z q1
  · exfalso
    unfold wire_Reader_List.f wire_Reader_stopped.f at h
    simp only [Option.bind_some] at h
    rw [if_pos (stop_ne he)] at h
    simp only [Option.some.injEq, Prod.mk.injEq] at h
    exact absurd h.2.2 he
end Go.Proofs.Ytipgldfbjlhpoab.Pure
