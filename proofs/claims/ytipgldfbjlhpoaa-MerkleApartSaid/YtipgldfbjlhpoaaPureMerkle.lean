/- The plain side of layer 11: trees of sums, their roots, where they are split. -/
import Derived.Test.YtipgldfbjlhpoaaPureBack
import Derived.Test.YtipgldfbjlhpoaaHMerkle
import Derived.Test.YtipgldfbjlhpoaaPRMerkle
namespace Go.Proofs.Ytipgldfbjlhpoaa.Pure
set_option linter.unusedVariables false
set_option linter.unusedSimpArgs false
open Go.RowKit Go.Proofs.Ytipgldfbjlhpoaa.P Go.Proofs.Ytipgldfbjlhpoaa.Wire Go.Proofs.Ytipgldfbjlhpoaa.Sha Go.Proofs.YtipgldfbjlhpoaaW.PrintWords Go.Proofs.YtipgldfbjlhpoaaW.PrintLast

theorem sum_f (s : ByteArray) (h : s.size ≤ 1000000000000000) : sha_Sum.f s = some (sumB s) := by unfold sha_Sum.f; rw [if_pos h]
theorem rsum_f (s : ByteArray) (h : s.size ≤ 1000000000000000) : footbridgeref04_Sum.f s = some (sumB s) := by unfold footbridgeref04_Sum.f; rw [if_pos h]
theorem size_sumB (s : ByteArray) : (sumB s).size = 32 := by rw [sumB, size_ofL, length_sumL]
def leafT (p : S72) : ByteArray := ((⟨#[0]⟩ : ByteArray) ++ enc1 p.f0) ++ enc1 p.f1
def nodeT (a b : ByteArray) : ByteArray := ((⟨#[1]⟩ : ByteArray) ++ a) ++ b
def numE (n : Int) : ByteArray := match wire_Num.f n with | some x => x.1 | none => ⟨#[]⟩
def topT (n : Int) (t : ByteArray) : ByteArray := ((⟨#[2]⟩ : ByteArray) ++ numE n) ++ t
theorem numE_f (n : Int) : ∃ e, wire_Num.f n = some (numE n, e) := by
  obtain ⟨x, hx⟩ : ∃ x, wire_Num.f n = some x := ⟨_, rfl⟩
  unfold numE
  rw [hx]
  exact ⟨x.2, rfl⟩
theorem numE_nat (n : Nat) (hn : n ≤ 9007199254740992) : numE (n : Int) = numB n := by unfold numE; rw [num_f n hn]
theorem size_numE (n : Int) : (numE n).size ≤ 9 := by
  by_cases h : n < 0 ∨ 9007199254740992 < n
  · unfold numE wire_Num.f
    rw [if_pos h]
    exact Nat.zero_le _
  · obtain ⟨m, rfl⟩ := Int.eq_ofNat_of_zero_le (show 0 ≤ n by omega)
    rw [numE_nat m (by omega)]
    exact size_numB m (by omega)
theorem one_size (x : UInt8) : (⟨#[x]⟩ : ByteArray).size = 1 := rfl
theorem size_nodeT (a b : ByteArray) : (nodeT a b).size = 1 + a.size + b.size := by unfold nodeT; rw [ByteArray.size_append, ByteArray.size_append, one_size]
theorem size_topT (n : Int) (t : ByteArray) : (topT n t).size = 1 + (numE n).size + t.size := by unfold topT; rw [ByteArray.size_append, ByteArray.size_append, one_size]
theorem size_leafT (p : S72) : (leafT p).size = 1 + (enc1 p.f0).size + (enc1 p.f1).size := by unfold leafT; rw [ByteArray.size_append, ByteArray.size_append, one_size]
theorem text_f (s : ByteArray) (hs : s.size ≤ 65536) : wire_Text.f s = some (enc1 s, 0) := by
  unfold wire_Text.f
  rw [if_neg (by omega), num_f _ (by omega), Option.bind_some, if_pos (by have := size_numB s.size (by omega); simp only; omega)]
  rfl
theorem enc1_le (s : ByteArray) (hs : s.size ≤ 65536) : (enc1 s).size ≤ s.size + 9 := by
  rw [size_enc1]
  have := size_numB s.size (by omega)
  omega
theorem leaf_f (a b : ByteArray) (h0 : a.size ≤ 1000) (h1 : b.size ≤ 1000) : merkle_Leaf.f a b = some (sumB (leafT ⟨a, b⟩)) := by
  have e0 := enc1_le a (by omega)
  have e1 := enc1_le b (by omega)
  unfold merkle_Leaf.f
  rw [text_f _ (by omega), text_f _ (by omega)]
  simp only [Option.bind_some]
  rw [if_pos (by omega), if_pos (by rw [ByteArray.size_append, one_size]; omega), sum_f _ (by rw [ByteArray.size_append, ByteArray.size_append, one_size]; omega), Option.bind_some]
  rfl
theorem rleaf_f (a b : ByteArray) (k : Nat) (hk : 12 ≤ k) (h0 : a.size ≤ 1000) (h1 : b.size ≤ 1000) : footbridgeref11_LeafText.f k a b = some (leafT ⟨a, b⟩) := by
  have e0 := enc1_le a (by omega)
  have e1 := enc1_le b (by omega)
  unfold footbridgeref11_LeafText.f
  rw [lay_text _ k hk, lay_text _ k hk, text_f _ (by omega), text_f _ (by omega)]
  simp only [Option.bind_some]
  rw [if_pos (by omega), if_pos (by rw [ByteArray.size_append, one_size]; omega)]
  rfl
theorem node_f (a b : ByteArray) (h0 : a.size ≤ 1000000) (h1 : b.size ≤ 1000000) : merkle_Node.f a b = some (sumB (nodeT a b)) := by
  unfold merkle_Node.f
  rw [if_pos (by omega), if_pos (by rw [ByteArray.size_append, one_size]; omega), sum_f _ (by rw [ByteArray.size_append, ByteArray.size_append, one_size]; omega), Option.bind_some]
  rfl
theorem rnode_f (a b : ByteArray) (h0 : a.size ≤ 1000000) (h1 : b.size ≤ 1000000) : footbridgeref11_NodeText.f a b = some (nodeT a b) := by
  unfold footbridgeref11_NodeText.f
  rw [if_pos (by omega), if_pos (by rw [ByteArray.size_append, one_size]; omega)]
  rfl
theorem top_f (n : Int) (t : ByteArray) (ht : t.size ≤ 1000000) : merkle_Top.f n t = some (sumB (topT n t)) := by
  obtain ⟨e, he⟩ := numE_f n
  have := size_numE n
  unfold merkle_Top.f
  rw [he]
  simp only [Option.bind_some]
  rw [if_pos (by omega), if_pos (by rw [ByteArray.size_append, one_size]; omega), sum_f _ (by rw [ByteArray.size_append, ByteArray.size_append, one_size]; omega), Option.bind_some]
  rfl
theorem rtop_f (n : Int) (t : ByteArray) (k : Nat) (hk : 12 ≤ k) (ht : t.size ≤ 1000000) : footbridgeref11_TopText.f k n t = some (topT n t) := by
  obtain ⟨e, he⟩ := numE_f n
  have := size_numE n
  unfold footbridgeref11_TopText.f
  rw [rlay_f _ k hk, he]
  simp only [Option.bind_some]
  rw [if_pos (by omega), if_pos (by rw [ByteArray.size_append, one_size]; omega)]
  rfl

/-! ### where a list is split -/
def sp (n : Nat) : Nat := if n < 2 then 0 else 2 ^ (n - 1).log2
theorem sp_bounds (n : Nat) (h : 2 ≤ n) : 1 ≤ sp n ∧ sp n < n ∧ n ≤ 2 * sp n := by
  unfold sp
  rw [if_neg (by omega)]
  have h1 := Nat.log2_self_le (n := n - 1) (by omega)
  have h2 := Nat.lt_log2_self (n := n - 1)
  have h3 : 0 < 2 ^ (n - 1).log2 := Nat.two_pow_pos _
  rw [Nat.pow_succ] at h2
  omega
theorem sp_eq (n j : Nat) (h : 2 ^ j < n) (h2 : n ≤ 2 * 2 ^ j) : sp n = 2 ^ j := by
  have h3 : 0 < 2 ^ j := Nat.two_pow_pos _
  unfold sp
  rw [if_neg (by omega)]
  congr 1
  rw [Nat.log2_eq_iff (by omega), Nat.pow_succ]
  omega
theorem log_lt (n : Nat) (h : 2 ≤ n) (hn : n ≤ 1099511627776) : (n - 1).log2 < 40 := by
  rw [Nat.log2_lt (by omega)]
  omega
theorem split_f (n : Nat) (hn : n ≤ 1099511627776) : merkle_Split.f (n : Int) = some (sp n : Int) := by
  unfold merkle_Split.f
  by_cases h : n < 2
  · rw [if_pos (by omega)]
    unfold sp
    rw [if_pos h]
    rfl
  · have hl := log_lt n (by omega) hn
    have w1 : wrap64 ((n : Int) - 1) = ((n - 1 : Nat) : Int) := by rw [w64 (by omega) (by omega)]; omega
    have w2 : IntKind.u64.wrap ((n - 1 : Nat) : Int) = ((n - 1 : Nat) : Int) := by simp [IntKind.wrap, IntKind.bits, IntKind.signed]; omega
    have hb : bitLen (n - 1) = (n - 1).log2 + 1 := by unfold bitLen; rw [if_neg (by omega)]
    have w3 : wrap64 ((((n - 1).log2 + 1 : Nat) : Int) - 1) = (((n - 1).log2 : Nat) : Int) := by rw [w64 (by omega) (by omega)]; omega
    rw [if_neg (by omega), w1, w2]
    unfold bits_Len.f
    rw [if_pos (by omega), if_pos (by omega), Int.toNat_natCast, hb, Option.bind_some, w3, if_pos (by omega)]
    unfold sp
    rw [if_neg h]
    congr 1
    generalize (n - 1).log2 = j at hl
    clear w1 w2 w3 hb
    revert j
    decide +kernel
theorem split_small (a : Int) (h : a < 2) : merkle_Split.f a = some 0 := by unfold merkle_Split.f; rw [if_pos h]
theorem rsplit_l0 (n : Nat) (hn : n ≤ 1099511627776) : ∀ (d j k : Nat), j + d = 41 → 2 ^ j < n → d < k → footbridgeref11_Split.l0 k (n : Int) ((2 ^ j : Nat) : Int) = some (sp n : Int) := by
  intro d
  induction d with
  | zero =>
    intro j k hj h hk
    obtain rfl : j = 41 := by omega
    have : (2 : Nat) ^ 41 = 2199023255552 := rfl
    omega
  | succ d ih =>
    intro j k hj h hk
    obtain ⟨k, rfl⟩ : ∃ q, k = q + 1 := ⟨k - 1, by omega⟩
    obtain ⟨p, hp⟩ : ∃ p, p = 2 ^ j := ⟨_, rfl⟩
    have hs : 2 ^ (j + 1) = 2 * p := by rw [Nat.pow_succ, hp]; omega
    have hp1 : p < n := by rw [hp]; exact h
    rw [← hp]
    have w1 : wrap64 ((n : Int) - (p : Int)) = ((n - p : Nat) : Int) := by rw [w64 (by omega) (by omega)]; omega
    have w2 : wrap64 (2 * (p : Int)) = ((2 * p : Nat) : Int) := by rw [w64 (by omega) (by omega)]; omega
    rw [footbridgeref11_Split.l0, w1, w2]
    by_cases h2 : 2 * p < n
    · have := ih (j + 1) k (by omega) (by rw [hs]; exact h2) (by omega)
      rw [hs] at this
      rw [if_pos (by clear w1 w2; omega)]
      exact this
    · rw [if_neg (by clear w1 w2; omega), sp_eq n j (by rw [← hp]; exact hp1) (by rw [← hp]; omega), hp]
theorem rsplit_f (n : Nat) (hn : n ≤ 1099511627776) (k : Nat) (hk : 50 ≤ k) : footbridgeref11_Split.f k (n : Int) = some (sp n : Int) := by
  unfold footbridgeref11_Split.f
  by_cases h : n < 2
  · rw [if_pos (by omega)]
    unfold sp
    rw [if_pos h]
    rfl
  · rw [if_neg (by omega)]
    exact rsplit_l0 n hn 41 0 k (by omega) (by simp; omega) (by omega)
theorem rsplit_small (a : Int) (h : a < 2) (k : Nat) : footbridgeref11_Split.f k a = some 0 := by unfold footbridgeref11_Split.f; rw [if_pos h]

/-! ### trees -/
def short (m : Nat) (l : List S72) : Prop := ∀ p ∈ l, p.f0.size ≤ m ∧ p.f1.size ≤ m
theorem short_take {m : Nat} {l : List S72} (h : short m l) (n : Nat) : short m (l.take n) := fun p hp => h p (List.mem_of_mem_take hp)
theorem short_drop {m : Nat} {l : List S72} (h : short m l) (n : Nat) : short m (l.drop n) := fun p hp => h p (List.mem_of_mem_drop hp)
theorem rd_mem {l : List S72} (i : Nat) (h : i < l.length) : rd_T72 l (i : Int) = l[i] := by
  unfold rd_T72
  rw [Int.toNat_natCast, List.getD_eq_getElem?_getD, List.getElem?_eq_getElem h]
  rfl
def tree : Nat → List S72 → ByteArray
  | 0, _ => ⟨#[]⟩
  | d + 1, l => if l.length = 0 then ⟨#[]⟩ else if l.length = 1 then sumB (leafT (rd_T72 l 0)) else sumB (nodeT (tree d (l.take (sp l.length))) (tree d (l.drop (sp l.length))))
def alls : Nat → List S72 → List ByteArray
  | 0, _ => []
  | d + 1, l => if l.length = 0 then [] else if l.length = 1 then [leafT (rd_T72 l 0)] else
      alls d (l.take (sp l.length)) ++ alls d (l.drop (sp l.length)) ++ [nodeT (tree d (l.take (sp l.length))) (tree d (l.drop (sp l.length)))]
theorem tree_size (d : Nat) (l : List S72) : (tree d l).size ≤ 32 := by
  cases d with
  | zero => exact Nat.zero_le _
  | succ d =>
    rw [tree]
    split
    · exact Nat.zero_le _
    · split
      · rw [size_sumB]; exact Nat.le_refl _
      · rw [size_sumB]; exact Nat.le_refl _
theorem tree_32 (d : Nat) (l : List S72) (h : 1 ≤ l.length) (hd : l.length ≤ d) : (tree d l).size = 32 := by
  cases d with
  | zero => omega
  | succ d =>
    rw [tree, if_neg (by omega)]
    split
    · rw [size_sumB]
    · rw [size_sumB]
theorem parts_len (l : List S72) (h : 2 ≤ l.length) : (l.take (sp l.length)).length = sp l.length ∧ (l.drop (sp l.length)).length = l.length - sp l.length := by
  have := sp_bounds l.length h
  rw [List.length_take, List.length_drop]
  omega
theorem alls_len : ∀ (d : Nat) (l : List S72), (alls d l).length ≤ 2 * l.length - 1 := by
  intro d
  induction d with
  | zero => intro l; exact Nat.zero_le _
  | succ d ih =>
    intro l
    rw [alls]
    split
    · exact Nat.zero_le _
    · split
      · simp; omega
      · have hp := parts_len l (by omega)
        have hb := sp_bounds l.length (by omega)
        have h1 := ih (l.take (sp l.length))
        have h2 := ih (l.drop (sp l.length))
        rw [List.length_append, List.length_append, List.length_singleton]
        omega
theorem alls_size : ∀ (d : Nat) (l : List S72), short 200 l → ∀ t ∈ alls d l, t.size ≤ 1000 := by
  intro d
  induction d with
  | zero => intro l _ t ht; cases ht
  | succ d ih =>
    intro l hs t ht
    rw [alls] at ht
    split at ht
    · cases ht
    · split at ht
      · rename_i h0 h1
        have hm : rd_T72 l 0 ∈ l := by
          have := rd_mem (l := l) 0 (by omega)
          rw [show ((0 : Nat) : Int) = 0 from rfl] at this
          rw [this]
          exact List.getElem_mem _
        have := hs _ hm
        rw [List.mem_singleton] at ht
        rw [ht, size_leafT]
        have e0 := enc1_le (rd_T72 l 0).f0 (by omega)
        have e1 := enc1_le (rd_T72 l 0).f1 (by omega)
        omega
      · rw [List.mem_append, List.mem_append, List.mem_singleton] at ht
        rcases ht with (ht | ht) | rfl
        · exact ih _ (short_take hs _) t ht
        · exact ih _ (short_drop hs _) t ht
        · rw [size_nodeT]
          have := tree_size d (l.take (sp l.length))
          have := tree_size d (l.drop (sp l.length))
          omega
theorem rd_short {l : List S72} {m : Nat} (hs : short m l) (h : 0 < l.length) : (rd_T72 l 0).f0.size ≤ m ∧ (rd_T72 l 0).f1.size ≤ m := by
  have := rd_mem (l := l) 0 h
  rw [show ((0 : Nat) : Int) = 0 from rfl] at this
  rw [this]
  exact hs _ (List.getElem_mem _)
theorem fold_f : ∀ (d : Nat) (l : List S72) (k : Nat), 1 ≤ l.length → l.length ≤ d → l.length ≤ k → l.length ≤ 1000 → short 200 l → merkle_fold.f k l = some (tree d l) := by
  intro d
  induction d with
  | zero => intro l k h1 h2 _ _ _; omega
  | succ d ih =>
    intro l k h1 h2 hk hl hs
    obtain ⟨k, rfl⟩ : ∃ q, k = q + 1 := ⟨k - 1, by omega⟩
    rw [merkle_fold.f, tree, if_neg (show ¬ l.length = 0 by omega)]
    by_cases h : l.length = 1
    · have := rd_short hs (by omega)
      rw [if_pos h, if_pos h, leaf_f _ _ (by omega) (by omega)]
    · have hp := parts_len l (by omega)
      have hb := sp_bounds l.length (by omega)
      rw [if_neg h, if_neg h, split_f _ (by omega), Option.bind_some, if_pos (by omega), if_pos (by omega), Int.toNat_natCast,
        ih (l.take (sp l.length)) k (by omega) (by omega) (by omega) (by omega) (short_take hs _), Option.bind_some,
        ih (l.drop (sp l.length)) k (by omega) (by omega) (by omega) (by omega) (short_drop hs _), Option.bind_some,
        node_f _ _ (by have := tree_size d (l.take (sp l.length)); omega) (by have := tree_size d (l.drop (sp l.length)); omega)]
theorem rtree_f : ∀ (d : Nat) (l : List S72) (k : Nat), l.length ≤ d → d + 60 ≤ k → l.length ≤ 1000 → short 200 l → footbridgeref11_Tree.f k l = some (tree d l, alls d l) := by
  intro d
  induction d with
  | zero =>
    intro l k h2 hk hl hs
    obtain ⟨k, rfl⟩ : ∃ q, k = q + 1 := ⟨k - 1, by omega⟩
    rw [footbridgeref11_Tree.f, if_pos (by omega)]
    rfl
  | succ d ih =>
    intro l k h2 hk hl hs
    obtain ⟨k, rfl⟩ : ∃ q, k = q + 1 := ⟨k - 1, by omega⟩
    rw [footbridgeref11_Tree.f, tree, alls]
    by_cases h0 : l.length = 0
    · rw [if_pos (by omega), if_pos h0, if_pos h0]
    · rw [if_neg (by omega), if_neg h0, if_neg h0]
      by_cases h : l.length = 1
      · have := rd_short hs (by omega)
        have e0 := enc1_le (rd_T72 l 0).f0 (by omega)
        have e1 := enc1_le (rd_T72 l 0).f1 (by omega)
        rw [if_pos (by omega), if_pos (by omega), if_pos h, if_pos h, rleaf_f _ _ k (by omega) (by omega) (by omega), Option.bind_some, rsum_f _ (by rw [size_leafT]; simp only; omega), Option.bind_some]
      · have hp := parts_len l (by omega)
        have hb := sp_bounds l.length (by omega)
        have a1 := alls_len d (l.take (sp l.length))
        have a2 := alls_len d (l.drop (sp l.length))
        have t1 := tree_size d (l.take (sp l.length))
        have t2 := tree_size d (l.drop (sp l.length))
        rw [if_neg (by omega), if_neg h, if_neg h, rsplit_f _ (by omega) k (by omega), Option.bind_some, if_pos (by omega), if_pos (by omega), Int.toNat_natCast,
          ih (l.take (sp l.length)) k (by omega) (by omega) (by omega) (short_take hs _), Option.bind_some,
          ih (l.drop (sp l.length)) k (by omega) (by omega) (by omega) (short_drop hs _), Option.bind_some,
          rnode_f _ _ (by dsimp only; omega) (by dsimp only; omega), Option.bind_some, if_pos (by simp only [List.length_nil]; omega), Option.bind_some,
          if_pos (by rw [List.nil_append]; dsimp only; omega), Option.bind_some, if_pos (by rw [List.nil_append, List.length_append]; dsimp only; omega),
          rsum_f _ (by rw [size_nodeT]; dsimp only; omega), Option.bind_some, List.nil_append]
def treeOf (l : List S72) : ByteArray := tree 20 l
def rootP (l : List S72) : ByteArray := sumB (topT (l.length : Int) (tree 20 l))
def rootA (l : List S72) : List ByteArray := alls 20 l ++ [topT (l.length : Int) (tree 20 l)]
theorem root_f (l : List S72) (hl : l.length ≤ 20) (hs : short 200 l) : merkle_Root.f l = some (rootP l) := by
  unfold merkle_Root.f
  by_cases h : l.length = 0
  · have e : tree 20 l = ⟨#[]⟩ := by rw [tree, if_pos h]
    rw [if_pos h, top_f _ _ (by exact Nat.zero_le _), rootP, e, h]
    rfl
  · rw [if_neg h, fold_f 20 l l.length (by omega) hl (Nat.le_refl _) (by omega) hs, Option.bind_some, top_f _ _ (by have := tree_size 20 l; omega)]
    rfl
theorem rroot_f (l : List S72) (k : Nat) (hk : 100 ≤ k) (hl : l.length ≤ 20) (hs : short 200 l) : footbridgeref11_Root.f k l = some (rootP l, rootA l) := by
  have a1 := alls_len 20 l
  have t1 := tree_size 20 l
  have z := size_numE (l.length : Int)
  unfold footbridgeref11_Root.f
  rw [rtree_f 20 l k hl (by omega) (by omega) hs, Option.bind_some, rtop_f _ _ k (by omega) (by simp only; omega), Option.bind_some, if_pos (by simp only [List.length_nil]; omega), Option.bind_some, if_pos (by rw [List.nil_append]; simp only; omega),
    rsum_f _ (by rw [size_topT]; simp only; omega), Option.bind_some, List.nil_append]
  rfl
end Go.Proofs.Ytipgldfbjlhpoaa.Pure
