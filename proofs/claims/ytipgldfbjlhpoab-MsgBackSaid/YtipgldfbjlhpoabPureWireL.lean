/- The plain side of layer 1's lists: both readers tell the same. -/
import Derived.Test.YtipgldfbjlhpoabPureWireR
import Derived.Test.YtipgldfbjlhpoabPWireL
import Derived.Test.YtipgldfbjlhpoabPRWireL
namespace Go.Proofs.Ytipgldfbjlhpoab.Pure
set_option linter.unusedVariables false
set_option linter.unusedSimpArgs false
open Go.RowKit Go.Proofs.Ytipgldfbjlhpoab.P Go.Proofs.Ytipgldfbjlhpoab.Wire Go.Proofs.YtipgldfbjlhpoabW.PrintWords Go.Proofs.YtipgldfbjlhpoabW.PrintLast

/-- A list is told alike. -/
theorem list_l0 (s : ByteArray) (n : Nat) (hn : n ≤ 256) (hs : s.size ≤ 1000000000000000) : ∀ (d : Nat) (out : List ByteArray) (a k k' : Nat), out.length + d = n → a ≤ s.size → d + 20 ≤ k → d + 20 ≤ k' →
    ∃ (l : List ByteArray) (st : ByteArray) (e : Int), wire_Reader_List.l0 k (n : Int) (a : Int) 0 out s 0 = some (l, st, e) ∧ footbridgeref01_R_List.l0 k' (n : Int) out (out.length : Int) s 0 (s.extract a s.size) 0 = some (st, e, l) ∧ l.length ≤ 256 ∧ st.size ≤ s.size := by
  intro d
  induction d with
  | zero =>
    intro out a k k' ho ha hk hk'
    obtain ⟨k, rfl⟩ : ∃ q, k = q + 1 := ⟨k - 1, by omega⟩
    obtain ⟨k', rfl⟩ : ∃ q, k' = q + 1 := ⟨k' - 1, by omega⟩
    refine ⟨out, s.extract a s.size, 0, ?_, ?_, by omega, by rw [size_rest]; omega⟩
    · rw [wire_Reader_List.l0, if_pos rfl, if_neg (by omega), take_ok s 0 a ha]
      rfl
    · rw [footbridgeref01_R_List.l0, if_neg (by omega)]
  | succ d ih =>
    intro out a k k' ho ha hk hk'
    obtain ⟨k, rfl⟩ : ∃ q, k = q + 1 := ⟨k - 1, by omega⟩
    obtain ⟨k', rfl⟩ : ∃ q, k' = q + 1 := ⟨k' - 1, by omega⟩
    rw [wire_Reader_List.l0, if_pos rfl, if_pos (by omega), if_pos (by omega), if_pos (by omega), Int.toNat_natCast, footbridgeref01_R_List.l0, if_pos (by omega)]
    have hz := size_rest s a
    have hl : out.length < 8796093022208 := by omega
    rcases text_cases (s.extract a s.size) k' (by omega) (by omega) with ⟨e2, h2, hi, hr⟩ | ⟨t, z, hz2, hi, hr⟩
    · rw [hi, hr, Option.bind_some, Option.bind_some, if_pos hl, if_neg h2]
      obtain ⟨k, rfl⟩ : ∃ q, k = q + 1 := ⟨k - 1, by omega⟩
      refine ⟨[], s, e2, ?_, rfl, by simp, Nat.le_refl _⟩
      rw [wire_Reader_List.l0, if_neg h2, take_bad _ _ _ _ h2]
      rfl
    · rw [hi, hr, Option.bind_some, Option.bind_some, if_pos hl, if_pos rfl, if_pos hl]
      obtain ⟨l, st, e, h1, h2, h3, h4⟩ := ih (out ++ [t]) (a + z) k k' (by simp; omega) (by omega) (by omega) (by omega)
      have w1 : wrap64 ((a : Int) + (z : Int)) = ((a + z : Nat) : Int) := by rw [w64 (by omega) (by omega)]; omega
      have w2 : wrap64 ((out.length : Int) + 1) = (((out ++ [t]).length : Nat) : Int) := by rw [w64 (by omega) (by omega)]; simp
      refine ⟨l, st, e, ?_, ?_, h3, h4⟩
      · rw [w1]; exact h1
      · rw [w2, rest_rest s a z ha]; exact h2
theorem list_step (s : ByteArray) (e : Int) (k k' : Nat) (hk : 300 ≤ k) (hk' : 300 ≤ k') (hs : s.size ≤ 1000000000000000) : ∃ (v : List ByteArray) (st : ByteArray) (e' : Int), wire_Reader_List.f k s e = some (v, st, e') ∧ footbridgeref01_R_List.f k' s e = some (st, e', v) ∧ v.length ≤ 256 ∧ st.size ≤ s.size := by
  obtain ⟨k, rfl⟩ : ∃ q, k = q + 2 := ⟨k - 2, by omega⟩
  by_cases he : e = 0
  · subst he
    unfold wire_Reader_List.f wire_Reader_stopped.f footbridgeref01_R_List.f wire_number.f
    rw [rnum_f s k' (by omega) hs]
    unfold rnumS
    rcases numberS_cases s with ⟨e2, h2, hn⟩ | ⟨n, a, hn, h1, h8, ha, hm⟩
    · rw [hn]
      refine ⟨[], s, e2, ?_, ?_, by simp, Nat.le_refl _⟩
      · obtain ⟨k, rfl⟩ : ∃ q, k = q + 1 := ⟨k - 1, by omega⟩
        simp only [Option.bind_some, bne_self_eq_false, Bool.false_eq_true, if_false, hn, if_neg h2, wire_Reader_List.j0, wire_Reader_List.j1, wire_Reader_List.l0, take_bad _ _ _ _ h2]
      · rw [if_neg h2]
        simp only [Option.bind_some, if_neg h2]
    · rw [hn]
      by_cases hbig : (n : Int) > 256
      · obtain ⟨k, rfl⟩ : ∃ q, k = q + 1 := ⟨k - 1, by omega⟩
        refine ⟨[], s, 4, ?_, ?_, by simp, Nat.le_refl _⟩
        · simp only [Option.bind_some, bne_self_eq_false, Bool.false_eq_true, if_false, hn, if_true, wire_Reader_List.j0, wire_Reader_List.j1, wire_Reader_List.l0, decide_eq_true hbig, if_neg (show ¬ (4 : Int) = 0 by decide), take_bad s 0 (a : Int) 4 (by decide)]
        · simp only [Option.bind_some, if_true, if_pos hbig]
      · obtain ⟨l, st, e, h1, h2, h3, h4⟩ := list_l0 s n (by omega) hs n [] a k k' (by simp) ha (by omega) (by omega)
        refine ⟨l, st, e, ?_, ?_, h3, h4⟩
        · simp only [Option.bind_some, bne_self_eq_false, Bool.false_eq_true, if_false, hn, if_true, wire_Reader_List.j0, wire_Reader_List.j1, decide_eq_false hbig, h1]
        · simp only [Option.bind_some, if_true, if_neg hbig, Int.toNat_natCast]
          exact h2
  · refine ⟨[], s, e, ?_, ?_, by simp, Nat.le_refl _⟩
    · unfold wire_Reader_List.f wire_Reader_stopped.f
      simp [he]
    · unfold footbridgeref01_R_List.f footbridgeref01_R_Num.f
      rw [if_neg he, Option.bind_some, if_neg he]
theorem texts_l0 (l : List ByteArray) (hl : l.length ≤ 1000000000) : ∀ (d k i : Nat), i + d = l.length → d < k → footbridgeref01_Texts.l0 k l l (i : Int) = some true := by
  intro d
  induction d with
  | zero =>
    intro k i hi hk
    obtain ⟨k, rfl⟩ : ∃ q, k = q + 1 := ⟨k - 1, by omega⟩
    rw [footbridgeref01_Texts.l0, if_neg (by omega)]
  | succ d ih =>
    intro k i hi hk
    obtain ⟨k, rfl⟩ : ∃ q, k = q + 1 := ⟨k - 1, by omega⟩
    have this := ih k (i + 1) (by omega) (by omega)
    have w : wrap64 ((i : Int) + 1) = ((i + 1 : Nat) : Int) := by rw [w64 (by omega) (by omega)]; omega
    rw [footbridgeref01_Texts.l0, if_pos (by clear w; omega), if_pos (by clear w; omega), if_pos (by clear w; omega), if_pos rfl, w, this]
theorem texts_f (l : List ByteArray) (k : Nat) (hl : l.length ≤ 1000000000) (hk : l.length < k) : footbridgeref01_Texts.f k l l = some true := by
  unfold footbridgeref01_Texts.f
  rw [if_pos rfl]
  exact texts_l0 l hl l.length k 0 (by omega) hk
end Go.Proofs.Ytipgldfbjlhpoab.Pure
