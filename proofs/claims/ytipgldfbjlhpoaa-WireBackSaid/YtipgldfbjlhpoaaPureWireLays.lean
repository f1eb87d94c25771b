/- The plain side of WireLays: numbers, texts, lists of texts as bytes. -/
import Derived.Test.YtipgldfbjlhpoaaPureWire
import Derived.Test.YtipgldfbjlhpoaaPLWireLays
namespace Go.Proofs.Ytipgldfbjlhpoaa.Pure
set_option linter.unusedVariables false
set_option linter.unusedSimpArgs false
open Go.RowKit Go.Proofs.Ytipgldfbjlhpoaa.P Go.Proofs.Ytipgldfbjlhpoaa.Wire Go.Proofs.YtipgldfbjlhpoaaW.PrintWords Go.Proofs.YtipgldfbjlhpoaaW.PrintLast

theorem strOfNums_append (a b : List Int) : strOfNums a ++ strOfNums b = strOfNums (a ++ b) := by
  have h : (strOfNums a ++ strOfNums b).data.toList = (strOfNums (a ++ b)).data.toList := by
    rw [strOfNums_data, ByteArray.data_append, Array.toList_append, strOfNums_data, strOfNums_data, List.map_append]
  cases hx : strOfNums a ++ strOfNums b
  cases hy : strOfNums (a ++ b)
  rw [hx, hy] at h
  congr 1
  exact Array.toList_inj.mp h
theorem rlay_l0 : ∀ (f m k : Nat) (L : List Int), m < 256 ^ f → f + L.length ≤ 8 → f < k →
    footbridgeref01_Num.l0 k (m : Int) (strOfNums L) = some (strOfNums (((beA f m L).length : Int) :: beA f m L), 0) := by
  intro f
  induction f with
  | zero =>
    intro m k L hm hL hk
    obtain ⟨k, rfl⟩ : ∃ q, k = q + 1 := ⟨k - 1, by omega⟩
    have hm0 : m = 0 := by simp at hm; omega
    subst hm0
    have e : (L.length : Int) % 256 = (L.length : Int) := by omega
    have c : (strOfNums [(L.length : Int)]).size + (strOfNums L).size ≤ 9223372036854775807 := by rw [strOfNums_size, strOfNums_size]; simp; omega
    rw [footbridgeref01_Num.l0, if_neg (by omega), strOfNums_size, e, Option.bind_some, ← strOfNums_size L, strOfNums_size L]
    rw [strOfNums_size, strOfNums_size] at *
    rw [if_pos (by simp; omega), strOfNums_append, beA_zero]
    rfl
  | succ f ih =>
    intro m k L hm hL hk
    obtain ⟨k, rfl⟩ : ∃ q, k = q + 1 := ⟨k - 1, by omega⟩
    by_cases h0 : m = 0
    · subst h0
      have e : (L.length : Int) % 256 = (L.length : Int) := by omega
      rw [footbridgeref01_Num.l0, if_neg (by omega), strOfNums_size, e, Option.bind_some]
      rw [strOfNums_size]
      rw [if_pos (by simp; omega), strOfNums_append, beA_zero]
      rfl
    · have e1 : Int.tmod (m : Int) 256 % 256 = ((m % 256 : Nat) : Int) := by rw [Int.tmod_eq_emod_of_nonneg (by omega)]; omega
      have hq : m / 256 < 256 ^ f := by rw [Nat.pow_succ] at hm; omega
      have hp : 256 ^ (f + 1) ≤ 256 ^ 8 := Nat.pow_le_pow_right (by omega) (by omega)
      have hm8 : m < 18446744073709551616 := Nat.lt_of_lt_of_le hm hp
      have this := ih (m / 256) k (((m % 256 : Nat) : Int) :: L) hq (by simp; omega) (by omega)
      have c : m > 0 := by omega
      clear hp hq hm
      have e2 : wrap64 (Int.tdiv (m : Int) 256) = ((m / 256 : Nat) : Int) := by
        rw [Int.tdiv_eq_ediv_of_nonneg (by omega), w64 (by omega) (by omega)]
        omega
      rw [footbridgeref01_Num.l0, if_pos (by clear e2; omega), e1, Option.bind_some, strOfNums_size, strOfNums_size, if_pos (by clear e2; simp; omega), e2, strOfNums_append]
      rw [beA, if_neg h0]
      exact this
theorem rlay_f (a : Int) (k : Nat) (hk : 12 ≤ k) : footbridgeref01_Num.f k a = wire_Num.f a := by
  obtain ⟨k, rfl⟩ : ∃ q, k = q + 1 := ⟨k - 1, by omega⟩
  unfold footbridgeref01_Num.f wire_Num.f
  by_cases h0 : a < 0
  · rw [if_pos h0, if_pos (Or.inl h0)]
    rfl
  · rw [if_neg h0, footbridgeref01_Num.j0]
    by_cases h1 : 9007199254740992 < a
    · rw [if_pos (decide_eq_true h1), if_pos (Or.inr h1)]
    · rw [if_neg (by rw [decide_eq_true_iff]; exact h1), if_neg (by omega)]
      have := rlay_l0 8 a.toNat k [] (by omega) (by simp) (by omega)
      rw [show ((a.toNat : Nat) : Int) = a by omega] at this
      exact this
theorem num_f (n : Nat) (hn : n ≤ 9007199254740992) : wire_Num.f (n : Int) = some (numB n, 0) := by
  unfold wire_Num.f
  rw [if_neg (by omega), Int.toNat_natCast]
theorem size_numB (n : Nat) (hn : n ≤ 9007199254740992) : (numB n).size ≤ 9 := by
  unfold numB be
  rw [strOfNums_size]
  have := length_beA 8 n [] 8 (by omega)
  simp at this ⊢
  omega
theorem lay_text (s : ByteArray) (k : Nat) (hk : 12 ≤ k) : footbridgeref01_Text.f k s = wire_Text.f s := by
  unfold footbridgeref01_Text.f wire_Text.f
  rw [rlay_f _ k hk]
theorem lay_text_cases (s : ByteArray) : wire_Text.f s = some (⟨#[]⟩, 4) ∨ (s.size ≤ 65536 ∧ wire_Text.f s = some (numB s.size ++ s, 0)) := by
  unfold wire_Text.f
  by_cases h : (s.size : Int) > 65536
  · rw [if_pos h]; exact .inl rfl
  · rw [if_neg h, num_f _ (by omega), Option.bind_some, if_pos (by have := size_numB s.size (by omega); simp only; omega)]
    exact .inr ⟨by omega, rfl⟩
theorem join_l0 (l : List ByteArray) (hl : l.length ≤ 300) : ∀ (d k k' i : Nat) (out : ByteArray), i + d = l.length → d < k → d + 14 ≤ k' → out.size ≤ 100 + i * 70000 →
    ∃ r, wire_Join.l0 k out l (l.length : Int) (i : Int) = some r ∧ footbridgeref01_Join.l0 k' l out (i : Int) = some r := by
  intro d
  induction d with
  | zero =>
    intro k k' i out hi hk hk' ho
    obtain ⟨k, rfl⟩ : ∃ q, k = q + 1 := ⟨k - 1, by omega⟩
    obtain ⟨k', rfl⟩ : ∃ q, k' = q + 1 := ⟨k' - 1, by omega⟩
    have c1 : ¬ (i : Int) < (l.length : Int) := by omega
    rw [wire_Join.l0, footbridgeref01_Join.l0]
    simp only [if_neg c1]
    exact ⟨_, rfl, rfl⟩
  | succ d ih =>
    intro k k' i out hi hk hk' ho
    obtain ⟨k, rfl⟩ : ∃ q, k = q + 1 := ⟨k - 1, by omega⟩
    obtain ⟨k', rfl⟩ : ∃ q, k' = q + 1 := ⟨k' - 1, by omega⟩
    have c1 : (i : Int) < (l.length : Int) := by omega
    have c0 : 0 ≤ (i : Int) := by omega
    rw [wire_Join.l0, footbridgeref01_Join.l0, lay_text _ k' (by omega)]
    simp only [if_pos c1, if_pos c0]
    generalize rdOf ByteArray.empty l (i : Int) = t
    rcases lay_text_cases t with h | ⟨hs, h⟩
    · simp only [h, Option.bind_some, if_neg (show ¬ (4 : Int) = 0 by decide)]
      exact ⟨_, rfl, rfl⟩
    · have hz := size_numB t.size (by omega)
      have hz2 : (numB t.size ++ t).size = (numB t.size).size + t.size := ByteArray.size_append
      have hc : out.size + (numB t.size ++ t).size ≤ 9223372036854775807 := by omega
      obtain ⟨r, h1, h2⟩ := ih k k' (i + 1) (out ++ (numB t.size ++ t)) (by omega) (by omega) (by omega) (by rw [ByteArray.size_append]; omega)
      have w : wrap64 ((i : Int) + 1) = ((i + 1 : Nat) : Int) := by rw [w64 (by omega) (by omega)]; omega
      simp only [h, Option.bind_some, if_true, if_pos hc, w]
      exact ⟨r, h1, h2⟩
theorem join_f (l : List ByteArray) (k : Nat) (hk : 400 ≤ k) : ∃ r, wire_Join.f k l = some r ∧ footbridgeref01_Join.f k l = some r := by
  unfold wire_Join.f footbridgeref01_Join.f
  by_cases h : (l.length : Int) > 256
  · simp only [if_pos h]; exact ⟨_, rfl, rfl⟩
  · rw [rlay_f _ k (by omega), num_f _ (by omega)]
    simp only [if_neg h, Option.bind_some]
    exact join_l0 l (by omega) l.length k k 0 (numB l.length) (by omega) (by omega) (by omega) (by have := size_numB l.length (by omega); omega)
theorem WireLays (a0 : Int) (a1 : ByteArray) (l2 : List ByteArray) : footbridgelaw01_WireLays.f 400 a0 a1 l2 = some true := by
  unfold footbridgelaw01_WireLays.f
  by_cases h : (l2.length : Int) > 300
  · rw [if_pos h]; rfl
  · rw [if_neg h]
    obtain ⟨r, h1, h2⟩ := join_f l2 400 (by omega)
    have h3 : ∃ x, wire_Text.f a1 = some x := by
      rcases lay_text_cases a1 with h | ⟨_, h⟩
      · exact ⟨_, h⟩
      · exact ⟨_, h⟩
    obtain ⟨x, hx⟩ := h3
    obtain ⟨y, hy⟩ : ∃ y, wire_Num.f a0 = some y := ⟨_, rfl⟩
    rw [rlay_f _ 400 (by omega), lay_text _ 400 (by omega), h1, h2, hx, hy]
    simp only [Option.bind_some, if_true]
    rfl
end Go.Proofs.Ytipgldfbjlhpoaa.Pure
