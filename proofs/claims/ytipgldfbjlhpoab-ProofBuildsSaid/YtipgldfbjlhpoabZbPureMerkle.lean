/- The plain side of layer 11: trees of sums, their roots, where they are split. -/
import Derived.Test.YtipgldfbjlhpoabZbPureBack
import Derived.Test.YtipgldfbjlhpoabZbHMerkle
import Derived.Test.YtipgldfbjlhpoabZbPRMerkle
namespace Go.Proofs.Ytipgldfbjlhpoab.Pure
set_option linter.unusedVariables false
set_option linter.unusedSimpArgs false
open Go.RowKit Go.Proofs.Ytipgldfbjlhpoab.P Go.Proofs.Ytipgldfbjlhpoab.Wire Go.Proofs.Ytipgldfbjlhpoab.Sha Go.Proofs.YtipgldfbjlhpoabW.PrintWords Go.Proofs.YtipgldfbjlhpoabW.PrintLast
theorem sum_f (s : ByteArray) (h : s.size ≤ 1000000000000000) : sha_Sum.f s = some (sumB s) := by unfold sha_Sum.f; rw [if_pos h]
theorem rsum_f (s : ByteArray) (h : s.size ≤ 1000000000000000) : footbridgeref04_Sum.f s = some (sumB s) := by unfold footbridgeref04_Sum.f; rw [if_pos h]
theorem size_sumB (s : ByteArray) : (sumB s).size = 32 := by rw [sumB, size_ofL, length_sumL]
def leafT (p : S86) : ByteArray := ((⟨#[0]⟩ : ByteArray) ++ enc1 p.f0) ++ enc1 p.f1
def nodeT (a b : ByteArray) : ByteArray := ((⟨#[1]⟩ : ByteArray) ++ a) ++ b
def numE (n : Int) : ByteArray := match wire_Num.f n with | some x => x.1 | none => ⟨#[]⟩
def topT (n : Int) (t : ByteArray) : ByteArray := ((⟨#[2]⟩ : ByteArray) ++ numE n) ++ t
theorem one_size (x : UInt8) : (⟨#[x]⟩ : ByteArray).size = 1 := rfl
theorem size_nodeT (a b : ByteArray) : (nodeT a b).size = 1 + a.size + b.size := by unfold nodeT; rw [ByteArray.size_append, ByteArray.size_append, one_size]
theorem size_leafT (p : S86) : (leafT p).size = 1 + (enc1 p.f0).size + (enc1 p.f1).size := by unfold leafT; rw [ByteArray.size_append, ByteArray.size_append, one_size]
theorem text_f (s : ByteArray) (hs : s.size ≤ 65536) : wire_Text.f s = some (enc1 s, 0) := by
 unfold wire_Text.f
 rw [if_neg (by omega), num_f _ (by omega), Option.bind_some, if_pos (by have := size_numB s.size (by omega); simp only; omega)]
 rfl
theorem enc1_le (s : ByteArray) (hs : s.size ≤ 65536) : (enc1 s).size ≤ s.size + 9 := by
 rw [size_enc1]
 have := size_numB s.size (by omega)
 omega
theorem leaf_f (a b : ByteArray) (h0 : a.size ≤ 1000) (h1 : b.size ≤ 1000) : merkle_Leaf.f a b = some (sumB (leafT ⟨a, b⟩)) := by
 have e0 := enc1_le a (by omega)
 have e1 := enc1_le b (by omega)
 unfold merkle_Leaf.f
 rw [text_f _ (by omega), text_f _ (by omega)]
 simp only [Option.bind_some]
 rw [if_pos (by omega), if_pos (by rw [ByteArray.size_append, one_size]; omega), sum_f _ (by rw [ByteArray.size_append, ByteArray.size_append, one_size]; omega), Option.bind_some]
 rfl
theorem rleaf_f (a b : ByteArray) (k : Nat) (hk : 12 ≤ k) (h0 : a.size ≤ 1000) (h1 : b.size ≤ 1000) : footbridgeref11_LeafText.f k a b = some (leafT ⟨a, b⟩) := by
 have e0 := enc1_le a (by omega)
 have e1 := enc1_le b (by omega)
 unfold footbridgeref11_LeafText.f
 rw [lay_text _ k hk, lay_text _ k hk, text_f _ (by omega), text_f _ (by omega)]
 simp only [Option.bind_some]
 rw [if_pos (by omega), if_pos (by rw [ByteArray.size_append, one_size]; omega)]
 rfl
theorem node_f (a b : ByteArray) (h0 : a.size ≤ 1000000) (h1 : b.size ≤ 1000000) : merkle_Node.f a b = some (sumB (nodeT a b)) := by
 unfold merkle_Node.f
 rw [if_pos (by omega), if_pos (by rw [ByteArray.size_append, one_size]; omega), sum_f _ (by rw [ByteArray.size_append, ByteArray.size_append, one_size]; omega), Option.bind_some]
 rfl
theorem rnode_f (a b : ByteArray) (h0 : a.size ≤ 1000000) (h1 : b.size ≤ 1000000) : footbridgeref11_NodeText.f a b = some (nodeT a b) := by
 unfold footbridgeref11_NodeText.f
 rw [if_pos (by omega), if_pos (by rw [ByteArray.size_append, one_size]; omega)]
 rfl
def sp (n : Nat) : Nat := if n < 2 then 0 else 2 ^ (n - 1).log2
theorem sp_bounds (n : Nat) (h : 2 ≤ n) : 1 ≤ sp n ∧ sp n < n ∧ n ≤ 2 * sp n := by
 unfold sp
 rw [if_neg (by omega)]
 have h1 := Nat.log2_self_le (n := n - 1) (by omega)
 have h2 := Nat.lt_log2_self (n := n - 1)
 have h3 : 0 < 2 ^ (n - 1).log2 := Nat.two_pow_pos _
 rw [Nat.pow_succ] at h2
 omega
theorem sp_eq (n j : Nat) (h : 2 ^ j < n) (h2 : n ≤ 2 * 2 ^ j) : sp n = 2 ^ j := by
 have h3 : 0 < 2 ^ j := Nat.two_pow_pos _
 unfold sp
 rw [if_neg (by omega)]
 congr 1
 rw [Nat.log2_eq_iff (by omega), Nat.pow_succ]
 omega
theorem log_lt (n : Nat) (h : 2 ≤ n) (hn : n ≤ 1099511627776) : (n - 1).log2 < 40 := by
 rw [Nat.log2_lt (by omega)]
 omega
theorem split_f (n : Nat) (hn : n ≤ 1099511627776) : merkle_Split.f (n : Int) = some (sp n : Int) := by
 unfold merkle_Split.f
 by_cases h : n < 2
 · rw [if_pos (by omega)]
   unfold sp
   rw [if_pos h]
   rfl
 · have hl := log_lt n (by omega) hn
   have w1 : wrap64 ((n : Int) - 1) = ((n - 1 : Nat) : Int) := by rw [w64 (by omega) (by omega)]; omega
   have w2 : IntKind.u64.wrap ((n - 1 : Nat) : Int) = ((n - 1 : Nat) : Int) := by simp [IntKind.wrap, IntKind.bits, IntKind.signed]; omega
   have hb : bitLen (n - 1) = (n - 1).log2 + 1 := by unfold bitLen; rw [if_neg (by omega)]
   have w3 : wrap64 ((((n - 1).log2 + 1 : Nat) : Int) - 1) = (((n - 1).log2 : Nat) : Int) := by rw [w64 (by omega) (by omega)]; omega
   rw [if_neg (by omega), w1, w2]
   unfold bits_Len.f
   rw [if_pos (by omega), if_pos (by omega), Int.toNat_natCast, hb, Option.bind_some, w3, if_pos (by omega)]
   unfold sp
   rw [if_neg h]
   congr 1
   generalize (n - 1).log2 = j at hl
   clear w1 w2 w3 hb
   revert j
   decide +kernel
theorem rsplit_l0 (n : Nat) (hn : n ≤ 1099511627776) : ∀ (d j k : Nat), j + d = 41 → 2 ^ j < n → d < k → footbridgeref11_Split.l0 k (n : Int) ((2 ^ j : Nat) : Int) = some (sp n : Int) := by
 intro d
 induction d with
 | zero =>
  intro j k hj h hk
  obtain rfl : j = 41 := by omega
  have : (2 : Nat) ^ 41 = 2199023255552 := rfl
  omega
 | succ d ih =>
  intro j k hj h hk
  obtain ⟨k, rfl⟩ : ∃ q, k = q + 1 := ⟨k - 1, by omega⟩
  obtain ⟨p, hp⟩ : ∃ p, p = 2 ^ j := ⟨_, rfl⟩
  have hs : 2 ^ (j + 1) = 2 * p := by rw [Nat.pow_succ, hp]; omega
  have hp1 : p < n := by rw [hp]; exact h
  rw [← hp]
  have w1 : wrap64 ((n : Int) - (p : Int)) = ((n - p : Nat) : Int) := by rw [w64 (by omega) (by omega)]; omega
  have w2 : wrap64 (2 * (p : Int)) = ((2 * p : Nat) : Int) := by rw [w64 (by omega) (by omega)]; omega
  rw [footbridgeref11_Split.l0, w1, w2]
  by_cases h2 : 2 * p < n
  · have := ih (j + 1) k (by omega) (by rw [hs]; exact h2) (by omega)
    rw [hs] at this
    rw [if_pos (by clear w1 w2; omega)]
    exact this
  · rw [if_neg (by clear w1 w2; omega), sp_eq n j (by rw [← hp]; exact hp1) (by rw [← hp]; omega), hp]
theorem rsplit_f (n : Nat) (hn : n ≤ 1099511627776) (k : Nat) (hk : 50 ≤ k) : footbridgeref11_Split.f k (n : Int) = some (sp n : Int) := by
 unfold footbridgeref11_Split.f
 by_cases h : n < 2
 · rw [if_pos (by omega)]
   unfold sp
   rw [if_pos h]
   rfl
 · rw [if_neg (by omega)]
   exact rsplit_l0 n hn 41 0 k (by omega) (by simp; omega) (by omega)
def short (m : Nat) (l : List S86) : Prop := ∀ p ∈ l, p.f0.size ≤ m ∧ p.f1.size ≤ m
theorem short_take {m : Nat} {l : List S86} (h : short m l) (n : Nat) : short m (l.take n) := fun p hp => h p (List.mem_of_mem_take hp)
theorem short_drop {m : Nat} {l : List S86} (h : short m l) (n : Nat) : short m (l.drop n) := fun p hp => h p (List.mem_of_mem_drop hp)
theorem rd_mem {l : List S86} (i : Nat) (h : i < l.length) : rd_T86 l (i : Int) = l[i] := by
 unfold rd_T86
 rw [Int.toNat_natCast, List.getD_eq_getElem?_getD, List.getElem?_eq_getElem h]
 rfl
def tree : Nat → List S86 → ByteArray
 | 0, _ => ⟨#[]⟩
 | d + 1, l => if l.length = 0 then ⟨#[]⟩ else if l.length = 1 then sumB (leafT (rd_T86 l 0)) else sumB (nodeT (tree d (l.take (sp l.length))) (tree d (l.drop (sp l.length))))
def alls : Nat → List S86 → List ByteArray
 | 0, _ => []
 | d + 1, l => if l.length = 0 then [] else if l.length = 1 then [leafT (rd_T86 l 0)] else
   alls d (l.take (sp l.length)) ++ alls d (l.drop (sp l.length)) ++ [nodeT (tree d (l.take (sp l.length))) (tree d (l.drop (sp l.length)))]
theorem tree_size (d : Nat) (l : List S86) : (tree d l).size ≤ 32 := by
 cases d with
 | zero => exact Nat.zero_le _
 | succ d =>
  rw [tree]
  split
  · exact Nat.zero_le _
  · split
    · rw [size_sumB]; exact Nat.le_refl _
    · rw [size_sumB]; exact Nat.le_refl _
theorem parts_len (l : List S86) (h : 2 ≤ l.length) : (l.take (sp l.length)).length = sp l.length ∧ (l.drop (sp l.length)).length = l.length - sp l.length := by
 have := sp_bounds l.length h
 rw [List.length_take, List.length_drop]
 omega
theorem alls_len : ∀ (d : Nat) (l : List S86), (alls d l).length ≤ 2 * l.length - 1 := by
 intro d
 induction d with
 | zero => intro l; exact Nat.zero_le _
 | succ d ih =>
  intro l
  rw [alls]
  split
  · exact Nat.zero_le _
  · split
    · simp; omega
    · have hp := parts_len l (by omega)
      have hb := sp_bounds l.length (by omega)
      have h1 := ih (l.take (sp l.length))
      have h2 := ih (l.drop (sp l.length))
      rw [List.length_append, List.length_append, List.length_singleton]
      omega
theorem rd_short {l : List S86} {m : Nat} (hs : short m l) (h : 0 < l.length) : (rd_T86 l 0).f0.size ≤ m ∧ (rd_T86 l 0).f1.size ≤ m := by
 have := rd_mem (l := l) 0 h
 rw [show ((0 : Nat) : Int) = 0 from rfl] at this
 rw [this]
 exact hs _ (List.getElem_mem _)
theorem rtree_f : ∀ (d : Nat) (l : List S86) (k : Nat), l.length ≤ d → d + 60 ≤ k → l.length ≤ 1000 → short 200 l → footbridgeref11_Tree.f k l = some (tree d l, alls d l) := by
 intro d
 induction d with
 | zero =>
  intro l k h2 hk hl hs
  obtain ⟨k, rfl⟩ : ∃ q, k = q + 1 := ⟨k - 1, by omega⟩
  rw [footbridgeref11_Tree.f, if_pos (by omega)]
  rfl
 | succ d ih =>
  intro l k h2 hk hl hs
  obtain ⟨k, rfl⟩ : ∃ q, k = q + 1 := ⟨k - 1, by omega⟩
  rw [footbridgeref11_Tree.f, tree, alls]
  by_cases h0 : l.length = 0
  · rw [if_pos (by omega), if_pos h0, if_pos h0]
  · rw [if_neg (by omega), if_neg h0, if_neg h0]
    by_cases h : l.length = 1
    · have := rd_short hs (by omega)
      have e0 := enc1_le (rd_T86 l 0).f0 (by omega)
      have e1 := enc1_le (rd_T86 l 0).f1 (by omega)
      rw [if_pos (by omega), if_pos (by omega), if_pos h, if_pos h, rleaf_f _ _ k (by omega) (by omega) (by omega), Option.bind_some, rsum_f _ (by rw [size_leafT]; simp only; omega), Option.bind_some]
    · have hp := parts_len l (by omega)
      have hb := sp_bounds l.length (by omega)
      have a1 := alls_len d (l.take (sp l.length))
      have a2 := alls_len d (l.drop (sp l.length))
      have t1 := tree_size d (l.take (sp l.length))
      have t2 := tree_size d (l.drop (sp l.length))
      rw [if_neg (by omega), if_neg h, if_neg h, rsplit_f _ (by omega) k (by omega), Option.bind_some, if_pos (by omega), if_pos (by omega), Int.toNat_natCast,
       ih (l.take (sp l.length)) k (by omega) (by omega) (by omega) (short_take hs _), Option.bind_some,
       ih (l.drop (sp l.length)) k (by omega) (by omega) (by omega) (short_drop hs _), Option.bind_some,
       rnode_f _ _ (by dsimp only; omega) (by dsimp only; omega), Option.bind_some, if_pos (by simp only [List.length_nil]; omega), Option.bind_some,
       if_pos (by rw [List.nil_append]; dsimp only; omega), Option.bind_some, if_pos (by rw [List.nil_append, List.length_append]; dsimp only; omega),
       rsum_f _ (by rw [size_nodeT]; dsimp only; omega), Option.bind_some, List.nil_append]
def rootA (l : List S86) : List ByteArray := alls 20 l ++ [topT (l.length : Int) (tree 20 l)]
end Go.Proofs.Ytipgldfbjlhpoab.Pure
