/- The plain side of layer 1's reading: both readers tell the same. -/
import Derived.Test.YtipgldfbjlhpoaaPWire
import Derived.Test.YtipgldfbjlhpoaaPRWire
namespace Go.Proofs.Ytipgldfbjlhpoaa.Pure
set_option linter.unusedVariables false
set_option linter.unusedSimpArgs false
open Go.RowKit Go.Proofs.Ytipgldfbjlhpoaa.P Go.Proofs.Ytipgldfbjlhpoaa.Wire Go.Proofs.YtipgldfbjlhpoaaW.PrintWords Go.Proofs.YtipgldfbjlhpoaaW.PrintLast

theorem bt_byteN (s : ByteArray) (i : Nat) : bt s (i : Int) = (byteN s i : Int) := by
  unfold bt byteN
  simp only [Int.toNat_natCast]
  split <;> rfl
theorem w64 {n : Int} (h0 : 0 ≤ n) (h1 : n < 9223372036854775808) : wrap64 n = n := by unfold wrap64; omega
theorem toList_nil (s : ByteArray) : s.toList = ([] : List UInt8) ↔ s.size = 0 := by
  rw [ByteArray.toList_eq]
  constructor
  · intro h
    have := congrArg List.length h
    rwa [Array.length_toList] at this
  · intro h
    exact List.eq_nil_of_length_eq_zero (by rw [Array.length_toList]; exact h)
/-- What a reading of a number tells: an error, or a number and how many bytes it has. -/
theorem numberS_cases (s : ByteArray) : (∃ e : Int, e ≠ 0 ∧ numberS s = (0, 0, e)) ∨ (∃ n at_ : Nat, numberS s = ((n : Int), (at_ : Int), 0) ∧ 1 ≤ at_ ∧ at_ ≤ 8 ∧ at_ ≤ s.size ∧ n ≤ 9007199254740992) := by
  unfold numberS
  split
  · exact .inl ⟨5, by decide, rfl⟩
  split
  · exact .inl ⟨6, by decide, rfl⟩
  split
  · exact .inl ⟨6, by decide, rfl⟩
  split
  · exact .inl ⟨5, by decide, rfl⟩
  split
  · exact .inl ⟨3, by decide, rfl⟩
  · refine .inr ⟨numTo s (byteN s 0), byteN s 0 + 1, rfl, by omega, by omega, by omega, by omega⟩
/-- The reference's reading of a number. -/
def rnumS (s : ByteArray) : ByteArray × Int × Int := if (numberS s).2.2 = 0 then (s.extract (numberS s).2.1.toNat s.size, 0, (numberS s).1) else (s, (numberS s).2.2, 0)
theorem rnum_l0 (s : ByteArray) (e : Int) (x : Nat) (hx : x ≤ 7) (hs : x < s.size) : ∀ (d k i : Nat), i + d = x + 1 → 1 ≤ i → d < k →
    footbridgeref01_R_Num.l0 k (x : Int) (numTo s (i - 1) : Int) (i : Int) s e = some (if 9007199254740992 < numTo s x then (s, 3, 0) else (s.extract (x + 1) s.size, 0, (numTo s x : Int))) := by
  intro d
  induction d with
  | zero =>
    intro k i hi h1 hk
    obtain ⟨k, rfl⟩ : ∃ q, k = q + 1 := ⟨k - 1, by omega⟩
    obtain rfl : i = x + 1 := by omega
    have w1 : wrap64 (1 + (x : Int)) = ((x + 1 : Nat) : Int) := by rw [w64 (by omega) (by omega)]; omega
    rw [footbridgeref01_R_Num.l0, if_neg (by omega), show x + 1 - 1 = x by omega, w1]
    by_cases h : 9007199254740992 < numTo s x
    · rw [if_pos (by omega), if_pos h]
    · rw [if_neg (by omega), if_neg h, if_pos (by omega), if_pos (by omega), Int.toNat_natCast]
  | succ d ih =>
    intro k i hi h1 hk
    obtain ⟨k, rfl⟩ : ∃ q, k = q + 1 := ⟨k - 1, by omega⟩
    have hn : numTo s (i - 1) < 281474976710656 := Nat.lt_of_lt_of_le (numTo_lt s (i - 1)) (show 256 ^ (i - 1) ≤ 256 ^ 6 from Nat.pow_le_pow_right (by omega) (by omega))
    have hb := byteN_lt s i
    have this := ih k (i + 1) (by omega) (by omega) (by omega)
    rw [show i + 1 - 1 = i by omega] at this
    have c1 : (i : Int) ≤ (x : Int) := by omega
    have c2 : 0 ≤ (i : Int) := by omega
    have c3 : (i : Int) < (s.size : Int) := by omega
    have hstep : numTo s i = numTo s (i - 1) * 256 + byteN s i := by
      obtain ⟨j, rfl⟩ : ∃ j, i = j + 1 := ⟨i - 1, by omega⟩
      rfl
    have w3 : wrap64 (bt s (i : Int)) = (byteN s i : Int) := by rw [bt_byteN, w64 (by omega) (by omega)]
    generalize numTo s (i - 1) = p at *
    generalize byteN s i = q at *
    have w2 : wrap64 ((p : Int) * 256) = (p : Int) * 256 := w64 (by omega) (by omega)
    have w4 : wrap64 ((p : Int) * 256 + (q : Int)) = (numTo s i : Int) := by
      rw [hstep, w64 (by omega) (by omega)]
      omega
    have w5 : wrap64 ((i : Int) + 1) = ((i + 1 : Nat) : Int) := by rw [w64 (by omega) (by omega)]; omega
    rw [footbridgeref01_R_Num.l0, if_pos c1, if_pos c2, if_pos c3, w2, w3, w4, w5, this]
theorem rnum_j0 (s : ByteArray) (e : Int) (x k : Nat) (b : Bool) (hx : x ≤ 7) (hs : 0 < s.size) (hk : 12 ≤ k) (hs2 : s.size ≤ 1000000000000000) :
    footbridgeref01_R_Num.j0 k (x : Int) b s e = some (if b = true then (s, 6, 0) else if s.size ≤ x then (s, 5, 0) else if 9007199254740992 < numTo s x then (s, 3, 0) else (s.extract (x + 1) s.size, 0, (numTo s x : Int))) := by
  obtain ⟨k, rfl⟩ : ∃ q, k = q + 1 := ⟨k - 1, by omega⟩
  rw [footbridgeref01_R_Num.j0]
  cases b with
  | true => rfl
  | false =>
    have w : wrap64 ((s.size : Int) - 1) = (s.size : Int) - 1 := w64 (by omega) (by omega)
    simp only [Bool.false_eq_true, if_false, w]
    by_cases h : s.size ≤ x
    · rw [if_pos (by omega), if_pos h]
    · rw [if_neg (by omega), if_neg h]
      exact rnum_l0 s e x hx (by omega) x k 1 (by omega) (by omega) (by omega)
theorem rnum_f (s : ByteArray) (k : Nat) (hk : 12 ≤ k) (hs2 : s.size ≤ 1000000000000000) : footbridgeref01_R_Num.f k s 0 = some (rnumS s) := by
  unfold footbridgeref01_R_Num.f
  rw [if_pos rfl]
  by_cases h0 : s.size = 0
  · rw [if_pos ((toList_nil s).2 h0)]
    unfold rnumS numberS
    simp [h0]
  · have hb0 := byteN_lt s 0
    have hb1 := byteN_lt s 1
    have w1 : wrap64 (bt s 0) = (byteN s 0 : Int) := by rw [show (0 : Int) = ((0 : Nat) : Int) from rfl, bt_byteN, w64 (by omega) (by omega)]
    have e1 : bt s 1 = (byteN s 1 : Int) := bt_byteN s 1
    rw [if_neg (fun h => h0 ((toList_nil s).1 h)), if_pos (by omega), w1, e1]
    by_cases h7 : 7 < byteN s 0
    · rw [if_pos (by omega)]
      unfold rnumS numberS
      simp [h0, h7]
    · rw [if_neg (by omega)]
      have hj : ∀ b : Bool, (b = true ↔ 0 < byteN s 0 ∧ 1 < s.size ∧ byteN s 1 = 0) → footbridgeref01_R_Num.j0 k (byteN s 0 : Int) b s 0 = some (rnumS s) := by
        intro b hb
        rw [rnum_j0 s 0 (byteN s 0) k b (by omega) (by omega) hk hs2]
        congr 1
        unfold rnumS numberS
        rw [if_neg h0, if_neg h7]
        by_cases hc : 0 < byteN s 0 ∧ 1 < s.size ∧ byteN s 1 = 0
        · rw [if_pos (hb.2 hc), if_pos hc]; rfl
        · rw [if_neg (fun h => hc (hb.1 h)), if_neg hc]
          by_cases hd : s.size ≤ byteN s 0
          · rw [if_pos hd, if_pos hd]; rfl
          · rw [if_neg hd, if_neg hd]
            by_cases hf : 9007199254740992 < numTo s (byteN s 0)
            · rw [if_pos hf, if_pos hf]; rfl
            · rw [if_neg hf, if_neg hf]; rfl
      by_cases hp : 0 < byteN s 0
      · rw [if_pos (by omega)]
        by_cases h1 : 1 < s.size
        · rw [if_pos (by omega), if_pos (by omega)]
          refine hj _ ?_
          rw [beq_iff_eq]
          omega
        · rw [if_neg (by omega)]
          exact hj _ (by simp; omega)
      · rw [if_neg (by omega)]
        exact hj _ (by simp; omega)
end Go.Proofs.Ytipgldfbjlhpoaa.Pure
