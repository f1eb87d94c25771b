/- WireBack: the walk and the plain side joined. -/
import Derived.Test.YtipgldfbjlhpoaaPureBack
import Derived.Test.YtipgldfbjlhpoaaHBack
namespace Go.Proofs.Ytipgldfbjlhpoaa.Pure
set_option linter.unusedVariables false
set_option linter.unusedSimpArgs false
open Go.RowKit Go.Proofs.Ytipgldfbjlhpoaa.P Go.Proofs.Ytipgldfbjlhpoaa.Wire Go.Proofs.YtipgldfbjlhpoaaW.PrintWords Go.Proofs.YtipgldfbjlhpoaaW.PrintLast

theorem list_enc (l : List ByteArray) (hl : l.length ≤ 256) (ht : ∀ t ∈ l, t.size ≤ 65536) (s : ByteArray) (hs : s.size ≤ 1000000000000000) : ∀ (d k i a : Nat), i + d = l.length → d + 5 ≤ k → a ≤ s.size → s.extract a s.size = encs (l.drop i) →
    wire_Reader_List.l0 k (l.length : Int) (a : Int) 0 (l.take i) s 0 = some (l, ⟨#[]⟩, 0) := by
  intro d
  induction d with
  | zero =>
    intro k i a hi hk ha he
    obtain ⟨k, rfl⟩ : ∃ q, k = q + 1 := ⟨k - 1, by omega⟩
    have h1 : l.take i = l := List.take_of_length_le (by omega)
    have h2 : l.drop i = [] := List.drop_eq_nil_of_le (by omega)
    rw [wire_Reader_List.l0, h1, if_pos rfl, if_neg (by omega), take_ok s 0 a ha, Option.bind_some, if_pos rfl, he, h2]
    rfl
  | succ d ih =>
    intro k i a hi hk ha he
    obtain ⟨k, rfl⟩ : ∃ q, k = q + 1 := ⟨k - 1, by omega⟩
    have hil : i < l.length := by omega
    have hd : l.drop i = l[i] :: l.drop (i + 1) := List.drop_eq_getElem_cons hil
    have htk : l.take (i + 1) = l.take i ++ [l[i]] := by rw [List.take_add_one, List.getElem?_eq_getElem hil]; rfl
    have htl : (l.take i).length = i := by rw [List.length_take]; omega
    have hsz := size_rest s a
    have he2 : s.extract a s.size = enc1 l[i] ++ encs (l.drop (i + 1)) := by rw [he, hd, encs]
    have hz : s.size - a = (enc1 l[i]).size + (encs (l.drop (i + 1))).size := by rw [← hsz, he2, ByteArray.size_append]
    have htx := text_enc l[i] (encs (l.drop (i + 1))) (ht _ (List.getElem_mem hil)) (by omega)
    have hrest : s.extract (a + (enc1 l[i]).size) s.size = encs (l.drop (i + 1)) := by
      rw [← rest_rest s a _ ha, he2, rest_append]
    have this := ih k (i + 1) (a + (enc1 l[i]).size) (by omega) (by omega) (by omega) hrest
    have c1 : ((l.take i).length : Int) < (l.length : Int) := by omega
    have c2 : (0 : Int) ≤ (a : Int) := by omega
    have c3 : (a : Int) ≤ (s.size : Int) := by omega
    have c4 : (l.take i).length < 8796093022208 := by omega
    have w : wrap64 ((a : Int) + ((enc1 l[i]).size : Int)) = ((a + (enc1 l[i]).size : Nat) : Int) := by rw [w64 (by omega) (by omega)]; omega
    rw [wire_Reader_List.l0]
    simp only [if_true, if_pos c1, if_pos c2, if_pos c3, Int.toNat_natCast, he2, htx, Option.bind_some, if_pos c4, w]
    rw [← htk]
    exact this
theorem list_enc_f (l : List ByteArray) (k : Nat) (hk : 400 ≤ k) (hl : l.length ≤ 256) (ht : ∀ t ∈ l, t.size ≤ 65536) (hsz : (encs l).size ≤ 17920000) : wire_Reader_List.f k (numB l.length ++ encs l) 0 = some (l, ⟨#[]⟩, 0) := by
  obtain ⟨k, rfl⟩ : ∃ q, k = q + 2 := ⟨k - 2, by omega⟩
  have hz := size_numB l.length (by omega)
  have hs : (numB l.length ++ encs l).size = (numB l.length).size + (encs l).size := ByteArray.size_append
  have hn := numberS_numB l.length (by omega) (encs l)
  have hbig : ¬ (l.length : Int) > 256 := by omega
  have h1 := list_enc l hl ht (numB l.length ++ encs l) (by omega) l.length k 0 (numB l.length).size (by omega) (by omega) (by omega) (by rw [rest_append]; rfl)
  unfold wire_Reader_List.f wire_Reader_stopped.f wire_number.f
  simp only [Option.bind_some, bne_self_eq_false, Bool.false_eq_true, if_false, hn, if_true, wire_Reader_List.j0, wire_Reader_List.j1, decide_eq_false hbig]
  exact h1
theorem encs_snoc (l : List ByteArray) (t : ByteArray) : encs (l ++ [t]) = encs l ++ enc1 t := by
  induction l with
  | nil => simp only [List.nil_append, encs, append_none, none_append]
  | cons a l ih => simp only [List.cons_append, encs, ih, ByteArray.append_assoc]
theorem front_more (s : ByteArray) (a z : Nat) (h : a ≤ s.size) : s.extract 0 (a + z) = s.extract 0 a ++ (s.extract a s.size).extract 0 z := by
  apply bytes_ext
  rw [ByteArray.data_append, Array.toList_append, ByteArray.data_extract, ByteArray.data_extract, ByteArray.data_extract]
  simp only [Array.toList_extract, List.extract_eq_take_drop, Nat.sub_zero, List.drop_zero]
  rw [Lib.extract_to_end, List.take_add]
theorem list_canon (s : ByteArray) (n : Nat) (hn : n ≤ 256) (hs : s.size ≤ 1000000000000000) : ∀ (d : Nat) (out : List ByteArray) (a k : Nat), out.length + d = n → a ≤ s.size → d + 20 ≤ k → (∀ t ∈ out, t.size ≤ 65536) → s.extract 0 a = numB n ++ encs out →
    ∃ (x : List ByteArray) (st : ByteArray) (e : Int), wire_Reader_List.l0 k (n : Int) (a : Int) 0 out s 0 = some (x, st, e) ∧ (e ≠ 0 ∨ (∃ z : Nat, z ≤ s.size ∧ st = s.extract z s.size ∧ s.extract 0 z = numB n ++ encs x ∧ x.length = n ∧ ∀ t ∈ x, t.size ≤ 65536)) := by
  intro d
  induction d with
  | zero =>
    intro out a k ho ha hk ht he
    obtain ⟨k, rfl⟩ : ∃ q, k = q + 1 := ⟨k - 1, by omega⟩
    refine ⟨out, s.extract a s.size, 0, ?_, .inr ⟨a, ha, rfl, he, by omega, ht⟩⟩
    rw [wire_Reader_List.l0, if_pos rfl, if_neg (by omega), take_ok s 0 a ha]
    rfl
  | succ d ih =>
    intro out a k ho ha hk ht he
    obtain ⟨k, rfl⟩ : ∃ q, k = q + 2 := ⟨k - 2, by omega⟩
    have hsz := size_rest s a
    have c1 : (out.length : Int) < (n : Int) := by omega
    have c2 : (0 : Int) ≤ (a : Int) := by omega
    have c3 : (a : Int) ≤ (s.size : Int) := by omega
    have c4 : out.length < 8796093022208 := by omega
    rcases text_canon (s.extract a s.size) (by omega) with ⟨e2, h2, hi⟩ | ⟨t, z, hz, hi, hx, htz⟩
    · refine ⟨[], s, e2, ?_, .inl h2⟩
      rw [wire_Reader_List.l0]
      simp only [if_true, if_pos c1, if_pos c2, if_pos c3, Int.toNat_natCast, hi, Option.bind_some, if_pos c4]
      rw [wire_Reader_List.l0, if_neg h2, take_bad _ _ _ _ h2]
      rfl
    · have hnew : s.extract 0 (a + z) = numB n ++ encs (out ++ [t]) := by
        rw [front_more s a z ha, hx, he, encs_snoc, ByteArray.append_assoc]
      obtain ⟨x, st, e, h1, h2⟩ := ih (out ++ [t]) (a + z) (k + 1) (by simp; omega) (by omega) (by omega) (by
        intro u hu
        rcases List.mem_append.mp hu with hu | hu
        · exact ht u hu
        · simp at hu; rw [hu]; exact htz) hnew
      have w : wrap64 ((a : Int) + (z : Int)) = ((a + z : Nat) : Int) := by rw [w64 (by omega) (by omega)]; omega
      refine ⟨x, st, e, ?_, h2⟩
      rw [wire_Reader_List.l0]
      simp only [if_true, if_pos c1, if_pos c2, if_pos c3, Int.toNat_natCast, hi, Option.bind_some, if_pos c4, w]
      exact h1
theorem list_canon_f (s : ByteArray) (k : Nat) (hk : 400 ≤ k) (hs : s.size ≤ 1000000000000000) : ∃ (x : List ByteArray) (st : ByteArray) (e : Int), wire_Reader_List.f k s 0 = some (x, st, e) ∧ (e ≠ 0 ∨ (∃ z n : Nat, n ≤ 256 ∧ z ≤ s.size ∧ st = s.extract z s.size ∧ s.extract 0 z = numB n ++ encs x ∧ x.length = n ∧ ∀ t ∈ x, t.size ≤ 65536)) := by
  obtain ⟨k, rfl⟩ : ∃ q, k = q + 3 := ⟨k - 3, by omega⟩
  unfold wire_Reader_List.f wire_Reader_stopped.f wire_number.f
  rcases numberS_cases s with ⟨e2, h2, hn⟩ | ⟨n, a, hn, h1, h8, ha, hm⟩
  · refine ⟨[], s, e2, ?_, .inl h2⟩
    simp only [Option.bind_some, bne_self_eq_false, Bool.false_eq_true, if_false, hn, if_neg h2, wire_Reader_List.j0, wire_Reader_List.j1, wire_Reader_List.l0, take_bad _ _ _ _ h2]
  · by_cases hbig : (n : Int) > 256
    · refine ⟨[], s, 4, ?_, .inl (by decide)⟩
      simp only [Option.bind_some, bne_self_eq_false, Bool.false_eq_true, if_false, hn, if_true, wire_Reader_List.j0, wire_Reader_List.j1, wire_Reader_List.l0, decide_eq_true hbig, if_neg (show ¬ (4 : Int) = 0 by decide), take_bad s 0 (a : Int) 4 (by decide)]
    · obtain ⟨x, st, e, h1, h2⟩ := list_canon s n (by omega) hs n [] a (k + 1) (by simp) ha (by omega) (by simp) (by rw [numB_canon s n a hn, encs, append_none])
      refine ⟨x, st, e, ?_, ?_⟩
      · simp only [Option.bind_some, bne_self_eq_false, Bool.false_eq_true, if_false, hn, if_true, wire_Reader_List.j0, wire_Reader_List.j1, decide_eq_false hbig]
        exact h1
      · rcases h2 with h2 | ⟨z, q1, q2, q3, q4, q5⟩
        · exact .inl h2
        · exact .inr ⟨z, n, by omega, q1, q2, q3, q4, q5⟩
theorem done_is (s : ByteArray) (e : Int) : ∃ v : Int, wire_Reader_Done.f s e = some (v, s, e) ∧ (v = 0 → e = 0 ∧ s.size = 0) := by
  unfold wire_Reader_Done.f wire_Reader_Err.f
  simp only [Option.bind_some]
  by_cases he : e = 0
  · rw [if_pos he]
    by_cases hs : s.toList = ([] : List UInt8)
    · rw [if_pos hs]; exact ⟨_, rfl, fun _ => ⟨he, (toList_nil s).1 hs⟩⟩
    · rw [if_neg hs]; exact ⟨_, rfl, fun h => absurd h (by decide)⟩
  · rw [if_neg he]; exact ⟨_, rfl, fun h => absurd h he⟩
theorem WireBack (n : Int) (h0 : 0 ≤ n) (h1 : n ≤ 4294967295) (s : ByteArray) (A : Option Addr) (c : Nat) (l : List ByteArray) (w : World) (hC : Kd.C Kd.string w A l.length l) (hc : l.length ≤ c) :
    Calls Try.prog 11 #[.int .u32 n, .slice A l.length c, .string s] w fun e w' => e = .returned (.bool true) ∧ Below w.heap.size w w' := by
  by_cases hfar : 60 < l.length ∨ 1000 < s.size
  · exact back_far n s A c l w hfar hC.2.1
  obtain ⟨m, rfl⟩ : ∃ m : Nat, n = (m : Int) := ⟨n.toNat, by omega⟩
  have hl : ¬ 60 < l.length := fun h => hfar (.inl h)
  have hs : ¬ 1000 < s.size := fun h => hfar (.inr h)
  have hm : m ≤ 9007199254740992 := by omega
  have hN := num_f m hm
  have hz := size_numB m hm
  have hz2 := size_numB l.length (by omega)
  rcases join_is l 400 (Nat.le_refl _) (by omega) with hJ | ⟨ht, hsz, hJ⟩
  · exact back_bad 400 m (by omega) s A c l 4 (by decide) w hC hc hl hs _ hN hJ
  · have hb : (numB l.length ++ encs l).size = (numB l.length).size + (encs l).size := ByteArray.size_append
    have hab : (numB m ++ (numB l.length ++ encs l)).size = (numB m).size + (numB l.length ++ encs l).size := ByteArray.size_append
    have hrN : wire_Reader_Num.f (numB m ++ (numB l.length ++ encs l)) 0 = some ((m : Int), numB l.length ++ encs l, 0) := by
      unfold wire_Reader_Num.f wire_Reader_stopped.f wire_number.f
      have hn := numberS_numB m hm (numB l.length ++ encs l)
      simp only [Option.bind_some, bne_self_eq_false, Bool.false_eq_true, if_false, hn, take_ok _ 0 (numB m).size (show (numB m).size ≤ (numB m ++ (numB l.length ++ encs l)).size by omega), rest_append]
    obtain ⟨x, s', e', hq, hx⟩ := list_canon_f s 400 (Nat.le_refl _) (by omega)
    obtain ⟨⟨y, ey⟩, hY, _⟩ := join_f x 400 (Nat.le_refl _)
    obtain ⟨dv, hD, hdv⟩ := done_is s' e'
    refine back_good 400 m (by omega) s A c l w hC hc hl hs _ _ hN hJ (by omega) hrN (list_enc_f l 400 (Nat.le_refl _) (by omega) ht hsz) (texts_f l 400 (by omega) (by omega)) x s' e' hq y ey hY dv hD ?_
    intro hd
    obtain ⟨he0, hs0⟩ := hdv hd
    rcases hx with hx | ⟨z, k, hk, hz3, hst, hfr, hxl, htx⟩
    · exact absurd he0 hx
    · have hj := join_ok x 400 (Nat.le_refl _) (by omega) htx
      rw [hY] at hj
      have hzs : z = s.size := by rw [hst, size_rest] at hs0; omega
      have h4 : y = numB x.length ++ encs x := by
        have := Option.some.inj hj
        exact (Prod.mk.inj this).1
      rw [h4, hxl, ← hfr, hzs]
      have h5 := split_at s s.size (Nat.le_refl _)
      have h6 : s.extract s.size s.size = ⟨#[]⟩ := by
        apply bytes_ext
        rw [Lib.extract_to_end]
        exact List.drop_eq_nil_of_le (by rw [Array.length_toList]; exact Nat.le_refl _)
      rw [h6, append_none] at h5
      exact h5.symm
end Go.Proofs.Ytipgldfbjlhpoaa.Pure
