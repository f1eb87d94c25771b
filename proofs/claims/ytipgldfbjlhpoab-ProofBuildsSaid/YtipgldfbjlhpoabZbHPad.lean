/- The padding, as sha.Pad and the reference make it: both come to the plain 'pad'. -/
import Derived.Test.YtipgldfbjlhpoabZbHSha1
import Derived.Test.YtipgldfbjlhpoabZbPSha
import Derived.Test.YtipgldfbjlhpoabZbPRSha
namespace Go.Proofs.Ytipgldfbjlhpoab.Sha
set_option linter.unusedVariables false
set_option linter.unusedSimpArgs false
open Go.RowKit Go.Proofs.YtipgldfbjlhpoabW.PrintWords Go.Proofs.YtipgldfbjlhpoabW.PrintLast Go.Proofs.YtipgldfbjlhpoabW.PrintMore
def ofL (l : List UInt8) : ByteArray := ⟨l.toArray⟩
def ints (l : List UInt8) : List Int := l.map fun b => (b.toNat : Int)
theorem ofL_ints (l : List UInt8) : strOfNums (ints l) = ofL l := by
 unfold strOfNums ofL ints
 congr 2
 rw [List.map_map]
 conv => rhs; rw [← List.map_id l]
 apply List.map_congr_left
 intro b _
 simp
def padByte (n i : Nat) : UInt8 := UInt8.ofNat (n * 8 / 2 ^ (8 * i))
theorem pad_eq (n : Nat) : pad n = 128 :: (List.replicate ((119 - n % 64) % 64) 0 ++ [padByte n 7, padByte n 6, padByte n 5, padByte n 4, padByte n 3, padByte n 2, padByte n 1, padByte n 0]) := rfl
theorem shr_byte (n : Nat) (i : Nat) (hn : n ≤ 9223372036854775807) (hi : i < 8) : shr .u64 (IntKind.u64.wrap ((IntKind.u64.wrap (n : Int)) * 8)) ((8 * i : Nat) : Int) % 256 = ((padByte n i).toNat : Int) := by
 have e1 : IntKind.u64.wrap (n : Int) = (n : Int) := by simp [IntKind.wrap, IntKind.bits, IntKind.signed]; omega
 have e2 : IntKind.u64.wrap ((n : Int) * 8) = ((n * 8 % 18446744073709551616 : Nat) : Int) := by simp [IntKind.wrap, IntKind.bits, IntKind.signed]
 rw [e1, e2]
 unfold shr padByte
 rw [show (UInt8.ofNat (n * 8 / 2 ^ (8 * i))).toNat = n * 8 / 2 ^ (8 * i) % 256 by simp]
 have e3 : min ((8 * i : Nat) : Int).toNat IntKind.u64.bits = 8 * i := by rw [Int.toNat_natCast]; exact Nat.min_eq_left (by simp [IntKind.bits]; omega)
 rw [e3]
 have e4 : n * 8 % 18446744073709551616 / 2 ^ (8 * i) % 256 = n * 8 / 2 ^ (8 * i) % 256 := by
  rcases (show i = 0 ∨ i = 1 ∨ i = 2 ∨ i = 3 ∨ i = 4 ∨ i = 5 ∨ i = 6 ∨ i = 7 by omega) with rfl | rfl | rfl | rfl | rfl | rfl | rfl | rfl <;> simp <;> omega
 rw [show ((2 : Int) ^ (8 * i)) = ((2 ^ (8 * i) : Nat) : Int) by simp]
 rw [← e4]
 simp only [Int.natCast_emod, Int.natCast_ediv]
 rfl
theorem pad_step (n z : Nat) (hn : n ≤ 9223372036854775807) (hz : z < 64) (X : List Int) (hX : X.length = z + 1) (t : List Int) (ht : t.length = 8) (k i : Nat) (hi : i < 8) :
  P.sha_Pad.l0 (k + 1) (n : Int) (X ++ t) (i : Int) = P.sha_Pad.l0 k (n : Int) (X ++ t.set (7 - i) ((padByte n i).toNat : Int)) ((i + 1 : Nat) : Int) := by
 have hl : (X ++ t).length = z + 9 := by simp [hX, ht]
 have b1 : (i : Int) < 8 := by omega
 have b2 : (0 : Int) ≤ ((8 * i : Nat) : Int) := by omega
 have b3 : (0 : Int) ≤ ((z + 8 - i : Nat) : Int) := by omega
 have b4 : ((z + 8 - i : Nat) : Int) < ((z + 9 : Nat) : Int) := by omega
 have b5 : X.length ≤ z + 8 - i := by omega
 have b6 : z + 8 - i - (z + 1) = 7 - i := by omega
 have w1 : wrap64 (8 * (i : Int)) = ((8 * i : Nat) : Int) := by unfold wrap64; omega
 have w2 : wrap64 (((z + 9 : Nat) : Int) - 1) = ((z + 8 : Nat) : Int) := by unfold wrap64; omega
 have w3 : wrap64 (((z + 8 : Nat) : Int) - (i : Int)) = ((z + 8 - i : Nat) : Int) := by unfold wrap64; omega
 have w4 : wrap64 ((i : Int) + 1) = ((i + 1 : Nat) : Int) := by unfold wrap64; omega
 simp only [P.sha_Pad.l0]
 rw [hl, w1, w2, w3, w4, if_pos b1, if_pos b2, if_pos b3, if_pos b4, shr_byte n i hn hi, Int.toNat_natCast, List.set_append_right _ _ b5, hX, b6]
theorem pad_ok (n : Nat) (hn : n ≤ 9223372036854775807) : P.sha_Pad.f 9 (n : Int) = some (ofL (pad n)) := by
 obtain ⟨z, hz⟩ : ∃ z, z = (119 - n % 64) % 64 := ⟨_, rfl⟩
 have hz64 : z < 64 := by omega
 have t1 : Int.tmod (n : Int) 64 = ((n % 64 : Nat) : Int) := by rw [Int.tmod_eq_emod_of_nonneg (by omega)]; omega
 have t2 : wrap64 (119 - ((n % 64 : Nat) : Int)) = ((119 - n % 64 : Nat) : Int) := by unfold wrap64; omega
 have t3 : Int.tmod ((119 - n % 64 : Nat) : Int) 64 = (z : Int) := by rw [Int.tmod_eq_emod_of_nonneg (by omega)]; omega
 have t4 : wrap64 (1 + (z : Int)) = ((z + 1 : Nat) : Int) := by unfold wrap64; omega
 have t5 : wrap64 (((z + 1 : Nat) : Int) + 8) = ((z + 9 : Nat) : Int) := by unfold wrap64; omega
 have X : (List.replicate (z + 9) (0 : Int)).set (0 : Int).toNat 128 = (128 :: List.replicate z 0) ++ [0, 0, 0, 0, 0, 0, 0, 0] := by
  rw [List.replicate_succ]
  show 128 :: List.replicate (z + 8) 0 = _
  rw [← List.replicate_append_replicate]
  rfl
 unfold P.sha_Pad.f
 rw [if_neg (by omega), t1, t2, t3, t4, t5, if_pos (by omega), if_pos (by omega), Int.toNat_natCast]
 simp only [Option.bind_some]
 rw [if_pos (by rw [List.length_replicate]; omega), X]
 have hX : (128 :: List.replicate z (0 : Int)).length = z + 1 := by simp
 have h0 : (0 : Int) = ((0 : Nat) : Int) := rfl
 refine (congrArg (P.sha_Pad.l0 9 (n : Int) ((128 :: List.replicate z 0) ++ [0, 0, 0, 0, 0, 0, 0, 0])) h0).trans ?_
 rw [pad_step n z hn hz64 _ hX _ rfl 8 0 (by omega), pad_step n z hn hz64 _ hX _ (by simp) 7 1 (by omega), pad_step n z hn hz64 _ hX _ (by simp) 6 2 (by omega), pad_step n z hn hz64 _ hX _ (by simp) 5 3 (by omega),
  pad_step n z hn hz64 _ hX _ (by simp) 4 4 (by omega), pad_step n z hn hz64 _ hX _ (by simp) 3 5 (by omega), pad_step n z hn hz64 _ hX _ (by simp) 2 6 (by omega), pad_step n z hn hz64 _ hX _ (by simp) 1 7 (by omega)]
 simp only [P.sha_Pad.l0]
 rw [if_neg (by omega), ← ofL_ints, pad_eq, ← hz]
 congr 1
 simp [ints]
theorem rpad_step1 (n : Nat) (hn : n ≤ 9223372036854775807) (xs : List Int) (hx : xs.length < 1000) (k i : Nat) (hi : i < 8) :
  P.footbridgeref04_Pad.l1 (k + 1) (n : Int) xs (i : Int) = P.footbridgeref04_Pad.l1 k (n : Int) (xs ++ [((padByte n i).toNat : Int)]) ((i : Int) - 1) := by
 have w1 : wrap64 (8 * (i : Int)) = ((8 * i : Nat) : Int) := by unfold wrap64; omega
 have w2 : IntKind.u64.wrap ((8 * i : Nat) : Int) = ((8 * i : Nat) : Int) := by simp [IntKind.wrap, IntKind.bits, IntKind.signed]; omega
 have w3 : wrap64 ((i : Int) - 1) = (i : Int) - 1 := by unfold wrap64; omega
 simp only [P.footbridgeref04_Pad.l1]
 rw [if_pos (by omega), w1, w2, if_pos (by omega), if_pos (by omega), shr_byte n i hn hi, w3]
theorem rpad_tail (n : Nat) (hn : n ≤ 9223372036854775807) (xs : List Int) (hx : xs.length < 900) :
  P.footbridgeref04_Pad.l1 9 (n : Int) xs 7 = some (strOfNums (xs ++ ints [padByte n 7, padByte n 6, padByte n 5, padByte n 4, padByte n 3, padByte n 2, padByte n 1, padByte n 0])) := by
 refine (congrArg (P.footbridgeref04_Pad.l1 9 (n : Int) xs) (show (7 : Int) = ((7 : Nat) : Int) from rfl)).trans ?_
 rw [rpad_step1 n hn _ (by omega) 8 7 (by omega)]
 rw [show (((7 : Nat) : Int) - 1) = ((6 : Nat) : Int) from rfl, rpad_step1 n hn _ (by simp; omega) 7 6 (by omega)]
 rw [show (((6 : Nat) : Int) - 1) = ((5 : Nat) : Int) from rfl, rpad_step1 n hn _ (by simp; omega) 6 5 (by omega)]
 rw [show (((5 : Nat) : Int) - 1) = ((4 : Nat) : Int) from rfl, rpad_step1 n hn _ (by simp; omega) 5 4 (by omega)]
 rw [show (((4 : Nat) : Int) - 1) = ((3 : Nat) : Int) from rfl, rpad_step1 n hn _ (by simp; omega) 4 3 (by omega)]
 rw [show (((3 : Nat) : Int) - 1) = ((2 : Nat) : Int) from rfl, rpad_step1 n hn _ (by simp; omega) 3 2 (by omega)]
 rw [show (((2 : Nat) : Int) - 1) = ((1 : Nat) : Int) from rfl, rpad_step1 n hn _ (by simp; omega) 2 1 (by omega)]
 rw [show (((1 : Nat) : Int) - 1) = ((0 : Nat) : Int) from rfl, rpad_step1 n hn _ (by simp; omega) 1 0 (by omega)]
 simp only [P.footbridgeref04_Pad.l1]
 rw [if_neg (by omega)]
 simp [ints]
theorem rpad_loop (n : Nat) (hn : n ≤ 9223372036854775807) (d : Nat) : ∀ (j : Nat), j + d = (119 - n % 64) % 64 → P.footbridgeref04_Pad.l0 (d + 10) (n : Int) (128 :: List.replicate j 0) = some (ofL (pad n)) := by
 have t1 : Int.tmod (n : Int) 64 = ((n % 64 : Nat) : Int) := by rw [Int.tmod_eq_emod_of_nonneg (by omega)]; omega
 have tt : ∀ j : Nat, j < 64 → Int.tmod (wrap64 ((wrap64 (((n % 64 : Nat) : Int) + ((128 :: List.replicate j (0 : Int)).length : Int))) + 8)) 64 = (((n % 64 + j + 9) % 64 : Nat) : Int) := by
  intro j hj
  have a1 : wrap64 (((n % 64 : Nat) : Int) + ((128 :: List.replicate j (0 : Int)).length : Int)) = ((n % 64 + j + 1 : Nat) : Int) := by simp only [List.length_cons, List.length_replicate]; unfold wrap64; omega
  have a2 : wrap64 (((n % 64 + j + 1 : Nat) : Int) + 8) = ((n % 64 + j + 9 : Nat) : Int) := by unfold wrap64; omega
  rw [a1, a2, Int.tmod_eq_emod_of_nonneg (by omega)]
  omega
 induction d with
 | zero =>
  intro j hj
  simp only [P.footbridgeref04_Pad.l0]
  rw [t1, tt j (by omega), if_pos (by omega), rpad_tail n hn _ (by simp; omega), ← ofL_ints, pad_eq, ← hj]
  congr 2
  simp [ints]
 | succ d ih =>
  intro j hj
  rw [show d + 1 + 10 = (d + 10) + 1 by omega]
  simp only [P.footbridgeref04_Pad.l0]
  rw [t1, tt j (by omega), if_neg (by omega), if_pos (by simp; omega)]
  have e : (128 :: List.replicate j (0 : Int)) ++ [0] = 128 :: List.replicate (j + 1) 0 := by
   rw [List.cons_append, List.replicate_succ']
  rw [e]
  exact ih (j + 1) (by omega)
theorem rpad_ok (n : Nat) (hn : n ≤ 9223372036854775807) : P.footbridgeref04_Pad.f ((119 - n % 64) % 64 + 10) (n : Int) = some (ofL (pad n)) := by
 unfold P.footbridgeref04_Pad.f
 rw [if_neg (by omega)]
 exact rpad_loop n hn _ 0 (by omega)
end Go.Proofs.Ytipgldfbjlhpoab.Sha
