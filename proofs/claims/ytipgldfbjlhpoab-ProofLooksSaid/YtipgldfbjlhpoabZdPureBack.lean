/- The plain side of laying and reading back: numbers and texts as bytes. -/
import Derived.Test.YtipgldfbjlhpoabZdPureWire
import Derived.Test.YtipgldfbjlhpoabZdPRWire
import Derived.Lib.IndexBytes
namespace Go.Proofs.Ytipgldfbjlhpoab.Pure
set_option linter.unusedVariables false
set_option linter.unusedSimpArgs false
open Go.RowKit Go.Proofs.Ytipgldfbjlhpoab.P Go.Proofs.Ytipgldfbjlhpoab.Wire Go.Proofs.YtipgldfbjlhpoabW.PrintWords Go.Proofs.YtipgldfbjlhpoabW.PrintLast
theorem strOfNums_append (a b : List Int) : strOfNums a ++ strOfNums b = strOfNums (a ++ b) := by
 have h : (strOfNums a ++ strOfNums b).data.toList = (strOfNums (a ++ b)).data.toList := by
  rw [strOfNums_data, ByteArray.data_append, Array.toList_append, strOfNums_data, strOfNums_data, List.map_append]
 cases hx : strOfNums a ++ strOfNums b
 cases hy : strOfNums (a ++ b)
 rw [hx, hy] at h
 congr 1
 exact Array.toList_inj.mp h
theorem rlay_l0 : ∀ (f m k : Nat) (L : List Int), m < 256 ^ f → f + L.length ≤ 8 → f < k →
  footbridgeref01_Num.l0 k (m : Int) (strOfNums L) = some (strOfNums (((beA f m L).length : Int) :: beA f m L), 0) := by
 intro f
 induction f with
 | zero =>
  intro m k L hm hL hk
  obtain ⟨k, rfl⟩ : ∃ q, k = q + 1 := ⟨k - 1, by omega⟩
  have hm0 : m = 0 := by simp at hm; omega
  subst hm0
  have e : (L.length : Int) % 256 = (L.length : Int) := by omega
  have c : (strOfNums [(L.length : Int)]).size + (strOfNums L).size ≤ 9223372036854775807 := by rw [strOfNums_size, strOfNums_size]; simp; omega
  rw [footbridgeref01_Num.l0, if_neg (by omega), strOfNums_size, e, Option.bind_some, ← strOfNums_size L, strOfNums_size L]
  rw [strOfNums_size, strOfNums_size] at *
  rw [if_pos (by simp; omega), strOfNums_append, beA_zero]
  rfl
 | succ f ih =>
  intro m k L hm hL hk
  obtain ⟨k, rfl⟩ : ∃ q, k = q + 1 := ⟨k - 1, by omega⟩
  by_cases h0 : m = 0
  · subst h0
    have e : (L.length : Int) % 256 = (L.length : Int) := by omega
    rw [footbridgeref01_Num.l0, if_neg (by omega), strOfNums_size, e, Option.bind_some]
    rw [strOfNums_size]
    rw [if_pos (by simp; omega), strOfNums_append, beA_zero]
    rfl
  · have e1 : Int.tmod (m : Int) 256 % 256 = ((m % 256 : Nat) : Int) := by rw [Int.tmod_eq_emod_of_nonneg (by omega)]; omega
    have hq : m / 256 < 256 ^ f := by rw [Nat.pow_succ] at hm; omega
    have hp : 256 ^ (f + 1) ≤ 256 ^ 8 := Nat.pow_le_pow_right (by omega) (by omega)
    have hm8 : m < 18446744073709551616 := Nat.lt_of_lt_of_le hm hp
    have this := ih (m / 256) k (((m % 256 : Nat) : Int) :: L) hq (by simp; omega) (by omega)
    have c : m > 0 := by omega
    clear hp hq hm
    have e2 : wrap64 (Int.tdiv (m : Int) 256) = ((m / 256 : Nat) : Int) := by
     rw [Int.tdiv_eq_ediv_of_nonneg (by omega), w64 (by omega) (by omega)]
     omega
    rw [footbridgeref01_Num.l0, if_pos (by clear e2; omega), e1, Option.bind_some, strOfNums_size, strOfNums_size, if_pos (by clear e2; simp; omega), e2, strOfNums_append]
    rw [beA, if_neg h0]
    exact this
theorem rlay_f (a : Int) (k : Nat) (hk : 12 ≤ k) : footbridgeref01_Num.f k a = wire_Num.f a := by
 obtain ⟨k, rfl⟩ : ∃ q, k = q + 1 := ⟨k - 1, by omega⟩
 unfold footbridgeref01_Num.f wire_Num.f
 by_cases h0 : a < 0
 · rw [if_pos h0, if_pos (Or.inl h0)]
   rfl
 · rw [if_neg h0, footbridgeref01_Num.j0]
   by_cases h1 : 9007199254740992 < a
   · rw [if_pos (decide_eq_true h1), if_pos (Or.inr h1)]
   · rw [if_neg (by rw [decide_eq_true_iff]; exact h1), if_neg (by omega)]
     have := rlay_l0 8 a.toNat k [] (by omega) (by simp) (by omega)
     rw [show ((a.toNat : Nat) : Int) = a by omega] at this
     exact this
theorem num_f (n : Nat) (hn : n ≤ 9007199254740992) : wire_Num.f (n : Int) = some (numB n, 0) := by
 unfold wire_Num.f
 rw [if_neg (by omega), Int.toNat_natCast]
theorem size_numB (n : Nat) (hn : n ≤ 9007199254740992) : (numB n).size ≤ 9 := by
 unfold numB be
 rw [strOfNums_size]
 have := length_beA 8 n [] 8 (by omega)
 simp at this ⊢
 omega
theorem lay_text (s : ByteArray) (k : Nat) (hk : 12 ≤ k) : footbridgeref01_Text.f k s = wire_Text.f s := by
 unfold footbridgeref01_Text.f wire_Text.f
 rw [rlay_f _ k hk]
def Proper (D : List Nat) : Prop := (∀ x ∈ D, x < 256) ∧ ∀ h t, D = h :: t → h ≠ 0
theorem Proper.front {D : List Nat} {x : Nat} (h : Proper (D ++ [x])) : Proper D := by
 refine ⟨fun y hy => h.1 y (by simp [hy]), fun a t e => h.2 a (t ++ [x]) (by rw [e]; rfl)⟩
def enc1 (t : ByteArray) : ByteArray := numB t.size ++ t
def encs : List ByteArray → ByteArray
 | [] => ⟨#[]⟩
 | t :: l => enc1 t ++ encs l
theorem size_enc1 (t : ByteArray) : (enc1 t).size = (numB t.size).size + t.size := ByteArray.size_append
end Go.Proofs.Ytipgldfbjlhpoab.Pure
