/- The plain side of sums by a key: both programs' are one function; whether two texts are the same. -/
import Derived.Test.YtipgldfbjlhpoabHMac
import Derived.Test.YtipgldfbjlhpoabPMac
import Derived.Test.YtipgldfbjlhpoabPRMac
namespace Go.Proofs.Ytipgldfbjlhpoab.Pure
set_option linter.unusedVariables false
set_option linter.unusedSimpArgs false
open Go.RowKit Go.Proofs.Ytipgldfbjlhpoab.P Go.Proofs.Ytipgldfbjlhpoab.Sha Go.Proofs.YtipgldfbjlhpoabW.PrintWords Go.Proofs.YtipgldfbjlhpoabW.PrintLast
set_option maxRecDepth 100000

theorem bits8 (f : BinOp) (x y : BitVec 8) : bits f .u8 (x.toNat : Int) (y.toNat : Int) = ((match f with | .and => x &&& y | .or => x ||| y | .xor => x ^^^ y | _ => x &&& ~~~y).toNat : Int) := by
  unfold bits
  have e : ∀ z : BitVec 8, BitVec.ofInt IntKind.u8.bits (z.toNat : Int) = z := by intro z; apply BitVec.eq_of_toNat_eq; simp [IntKind.bits]
  rw [e, e]
  have g : ∀ z : BitVec 8, IntKind.u8.wrap (z.toNat : Int) = (z.toNat : Int) := by
    intro z; simp [IntKind.wrap, IntKind.signed, IntKind.bits]; have := z.isLt; omega
  exact g _
theorem xor8 (x y : BitVec 8) : bits .xor .u8 (x.toNat : Int) (y.toNat : Int) = ((x ^^^ y).toNat : Int) := bits8 .xor x y
theorem or8 (x y : BitVec 8) : bits .or .u8 (x.toNat : Int) (y.toNat : Int) = ((x ||| y).toNat : Int) := bits8 .or x y
theorem or_xor (x a b : BitVec 8) : x ||| (a ^^^ b) = 0 ↔ x = 0 ∧ a = b := by
  show x ||| (a ^^^ b) = 0#8 ↔ x = 0#8 ∧ a = b
  rw [BitVec.or_eq_zero_iff, BitVec.xor_eq_zero_iff]
theorem bt_bv (s : ByteArray) (i : Nat) (h : i < s.size) : bt s (i : Int) = (((s[i]'h).toBitVec).toNat : Int) := by
  simp [bt, h]
theorem drop_one (s : ByteArray) (i : Nat) (h : i < s.size) : s.data.toList.drop i = (s[i]'h) :: s.data.toList.drop (i + 1) := by
  have h' : i < s.data.toList.length := by rw [Array.length_toList]; exact h
  rw [List.drop_eq_getElem_cons h']
  rfl
theorem same_l0 (a b : ByteArray) (n : Nat) (ha : a.size = n) (hb : b.size = n) (hn : n ≤ 1000000000000000) : ∀ (d k i : Nat) (X : BitVec 8), i + d = n → d < k →
    mac_Same.l0 k a b (X.toNat : Int) (n : Int) (i : Int) = some (decide (X = 0 ∧ a.data.toList.drop i = b.data.toList.drop i)) := by
  intro d
  induction d with
  | zero =>
    intro k i X hi hk
    obtain ⟨k, rfl⟩ : ∃ q, k = q + 1 := ⟨k - 1, by omega⟩
    have e1 : a.data.toList.drop i = [] := List.drop_eq_nil_of_le (by rw [Array.length_toList]; change a.size ≤ i; omega)
    have e2 : b.data.toList.drop i = [] := List.drop_eq_nil_of_le (by rw [Array.length_toList]; change b.size ≤ i; omega)
    rw [mac_Same.l0, if_neg (by omega), e1, e2]
    congr 1
    rw [Bool.eq_iff_iff, beq_iff_eq, decide_eq_true_iff]
    constructor
    · intro h; refine ⟨?_, rfl⟩; apply BitVec.eq_of_toNat_eq; simp; omega
    · rintro ⟨rfl, _⟩; rfl
  | succ d ih =>
    intro k i X hi hk
    obtain ⟨k, rfl⟩ : ∃ q, k = q + 1 := ⟨k - 1, by omega⟩
    have hia : i < a.size := by omega
    have hib : i < b.size := by omega
    have w1 : wrap64 ((i : Int) + 1) = ((i + 1 : Nat) : Int) := by unfold wrap64; omega
    rw [mac_Same.l0, if_pos (by omega), if_pos (by omega), if_pos (by omega), if_pos (by omega), bt_bv a i hia, bt_bv b i hib, xor8, or8, w1, ih k (i + 1) _ (by omega) (by omega)]
    congr 1
    have hx : (a[i]'hia).toBitVec = (b[i]'hib).toBitVec ↔ a[i]'hia = b[i]'hib := UInt8.toBitVec_inj
    rw [drop_one a i hia, drop_one b i hib, Bool.eq_iff_iff, decide_eq_true_iff, decide_eq_true_iff, List.cons.injEq, or_xor, hx, and_assoc]
theorem same_f (a b : ByteArray) (k : Nat) (ha : a.size ≤ 1000000000000000) (hk : a.size < k) : mac_Same.f k a b = some (a.toList == b.toList) := by
  unfold mac_Same.f
  by_cases h : (a.size : Int) = (b.size : Int)
  · rw [if_pos h]
    have h2 := same_l0 a b a.size rfl (by omega) ha a.size k 0 0 (by omega) hk
    refine h2.trans ?_
    congr 1
    rw [ByteArray.toList_eq, ByteArray.toList_eq, Bool.eq_iff_iff, decide_eq_true_iff, beq_iff_eq, List.drop_zero, List.drop_zero]
    exact ⟨fun h => h.2, fun h => ⟨rfl, h⟩⟩
  · rw [if_neg h]
    congr 1
    symm
    rw [beq_eq_false_iff_ne, ByteArray.toList_eq, ByteArray.toList_eq]
    intro e
    have := congrArg List.length e
    rw [Array.length_toList, Array.length_toList] at this
    change a.size = b.size at this
    omega
theorem mac_f (key s : ByteArray) (hk : key.size ≤ 100000000000000) (hs : s.size ≤ 100000000000000) : mac_Sum.f key s = some (macB key s) := by
  unfold mac_Sum.f
  rw [if_pos hk, if_pos hs]
theorem strOfNums_ofL (xs : List Int) : strOfNums xs = ofL (xs.map fun n => UInt8.ofNat n.toNat) := rfl
theorem macB_list (key s : ByteArray) (hk : key.size ≤ 64) : macB key s = ofL (sumL ((mixTo key 92 64).map (fun n => UInt8.ofNat n.toNat) ++ sumL ((mixTo key 54 64).map (fun n => UInt8.ofNat n.toNat) ++ s.data.toList))) := by
  have e : Sha.keyOf key = key := by unfold Sha.keyOf; rw [if_neg (by omega)]
  unfold macB
  rw [e]
  unfold mixS sumB
  rw [strOfNums_ofL, strOfNums_ofL]
  simp only [ofL, ByteArray.data_append, Array.toList_append]
theorem rmixed_l0 (key : ByteArray) (x : Int) : ∀ (d k i : Nat), i + d = 64 → d < k → footbridgeref05_mixed.l0 k key x ((mixTo key x 64).take i) (i : Int) = some (mixS key x) := by
  intro d
  induction d with
  | zero =>
    intro k i hi hk
    obtain ⟨k, rfl⟩ : ∃ q, k = q + 1 := ⟨k - 1, by omega⟩
    rw [footbridgeref05_mixed.l0, if_neg (by omega), List.take_of_length_le (by rw [length_mixTo]; omega)]
    rfl
  | succ d ih =>
    intro k i hi hk
    obtain ⟨k, rfl⟩ : ∃ q, k = q + 1 := ⟨k - 1, by omega⟩
    have hl : ((mixTo key x 64).take i).length < 140737488355328 := by rw [List.length_take, length_mixTo]; omega
    have w1 : wrap64 ((i : Int) + 1) = ((i + 1 : Nat) : Int) := by unfold wrap64; omega
    have hlt : i < (mixTo key x 64).length := by rw [length_mixTo]; omega
    have e : (mixTo key x 64).take (i + 1) = (mixTo key x 64).take i ++ [bits .xor .u8 (macC key i) x] := by
      rw [List.take_add_one, mixTo_at _ _ _ _ (by omega), if_pos (by omega)]
      rfl
    have hn := ih k (i + 1) (by omega) (by omega)
    rw [e] at hn
    rw [footbridgeref05_mixed.l0, if_pos (by omega), w1]
    by_cases hs : i < key.size
    · rw [if_pos (by omega), if_pos (by omega), if_pos hl, ← hn, macC, if_pos hs]
    · rw [if_neg (by omega), if_pos hl, ← hn, macC, if_neg hs]
theorem rmixed_f (key : ByteArray) (x : Int) (k : Nat) (hk : 64 < k) : footbridgeref05_mixed.f k key x = some (mixS key x) := rmixed_l0 key x 64 k 0 (by omega) hk
theorem rsum_f (s : ByteArray) (h : s.size ≤ 1000000000000000) : footbridgeref04_Sum.f s = some (sumB s) := by
  unfold footbridgeref04_Sum.f; rw [if_pos h]
theorem rmac_j0 (k : Nat) (key s : ByteArray) (hk : 65 < k) (hs : s.size ≤ 1000000) : footbridgeref05_Sum.j0 k key s = some (sumB (mixS key 92 ++ sumB (mixS key 54 ++ s))) := by
  obtain ⟨k, rfl⟩ : ∃ q, k = q + 1 := ⟨k - 1, by omega⟩
  have z1 := size_mixS key 92
  have z2 := size_mixS key 54
  have z3 := size_sumB (mixS key 54 ++ s)
  rw [footbridgeref05_Sum.j0, rmixed_f _ _ _ (by omega), Option.bind_some, rmixed_f _ _ _ (by omega), Option.bind_some, if_pos (by omega), rsum_f _ (by rw [ByteArray.size_append]; omega), Option.bind_some, if_pos (by omega), rsum_f _ (by rw [ByteArray.size_append]; omega), Option.bind_some]
theorem rmac_f (k : Nat) (key s : ByteArray) (hk : 65 < k) (hy : key.size ≤ 300) (hs : s.size ≤ 1000000) : footbridgeref05_Sum.f k key s = some (macB key s) := by
  unfold footbridgeref05_Sum.f macB Sha.keyOf
  by_cases h : (key.size : Int) > 64
  · rw [if_pos h, rsum_f _ (by omega), Option.bind_some, rmac_j0 _ _ _ hk hs, if_pos (by omega)]
  · rw [if_neg h, rmac_j0 _ _ _ hk hs, if_neg (by omega)]
end Go.Proofs.Ytipgldfbjlhpoab.Pure
