/- The plain side of layer 11: trees of sums, their roots, where they are split. -/
import Derived.Test.YtipgldfbjlhpoabZcHBits
import Derived.Test.YtipgldfbjlhpoabZcPRMerkle
import Derived.Test.YtipgldfbjlhpoabZcP0
import Derived.Shelf.Small.Strs
import Derived.Test.YtipgldfbjlhpoabProg
namespace Go.Proofs.Ytipgldfbjlhpoab.Pure
set_option linter.unusedVariables false
set_option linter.unusedSimpArgs false
open Go.RowKit Go.Proofs.Ytipgldfbjlhpoab.P Go.Proofs.Ytipgldfbjlhpoab.Wire Go.Proofs.Ytipgldfbjlhpoab.Sha Go.Proofs.YtipgldfbjlhpoabW.PrintWords Go.Proofs.YtipgldfbjlhpoabW.PrintLast
theorem sum_f (s : ByteArray) (h : s.size ≤ 1000000000000000) : sha_Sum.f s = some (sumB s) := by unfold sha_Sum.f; rw [if_pos h]
theorem rsum_f (s : ByteArray) (h : s.size ≤ 1000000000000000) : footbridgeref04_Sum.f s = some (sumB s) := by unfold footbridgeref04_Sum.f; rw [if_pos h]
theorem size_sumB (s : ByteArray) : (sumB s).size = 32 := by rw [sumB, size_ofL, length_sumL]
def leafT (p : S86) : ByteArray := ((⟨#[0]⟩ : ByteArray) ++ enc1 p.f0) ++ enc1 p.f1
def nodeT (a b : ByteArray) : ByteArray := ((⟨#[1]⟩ : ByteArray) ++ a) ++ b
def numE (n : Int) : ByteArray := match wire_Num.f n with | some x => x.1 | none => ⟨#[]⟩
def topT (n : Int) (t : ByteArray) : ByteArray := ((⟨#[2]⟩ : ByteArray) ++ numE n) ++ t
theorem numE_f (n : Int) : ∃ e, wire_Num.f n = some (numE n, e) := by
 obtain ⟨x, hx⟩ : ∃ x, wire_Num.f n = some x := ⟨_, rfl⟩
 unfold numE
 rw [hx]
 exact ⟨x.2, rfl⟩
theorem numE_nat (n : Nat) (hn : n ≤ 9007199254740992) : numE (n : Int) = numB n := by unfold numE; rw [num_f n hn]
theorem size_numE (n : Int) : (numE n).size ≤ 9 := by
 by_cases h : n < 0 ∨ 9007199254740992 < n
 · unfold numE wire_Num.f
   rw [if_pos h]
   exact Nat.zero_le _
 · obtain ⟨m, rfl⟩ := Int.eq_ofNat_of_zero_le (show 0 ≤ n by omega)
   rw [numE_nat m (by omega)]
   exact size_numB m (by omega)
theorem one_size (x : UInt8) : (⟨#[x]⟩ : ByteArray).size = 1 := rfl
theorem size_nodeT (a b : ByteArray) : (nodeT a b).size = 1 + a.size + b.size := by unfold nodeT; rw [ByteArray.size_append, ByteArray.size_append, one_size]
theorem size_leafT (p : S86) : (leafT p).size = 1 + (enc1 p.f0).size + (enc1 p.f1).size := by unfold leafT; rw [ByteArray.size_append, ByteArray.size_append, one_size]
theorem text_f (s : ByteArray) (hs : s.size ≤ 65536) : wire_Text.f s = some (enc1 s, 0) := by
 unfold wire_Text.f
 rw [if_neg (by omega), num_f _ (by omega), Option.bind_some, if_pos (by have := size_numB s.size (by omega); simp only; omega)]
 rfl
theorem enc1_le (s : ByteArray) (hs : s.size ≤ 65536) : (enc1 s).size ≤ s.size + 9 := by
 rw [size_enc1]
 have := size_numB s.size (by omega)
 omega
theorem leaf_f (a b : ByteArray) (h0 : a.size ≤ 1000) (h1 : b.size ≤ 1000) : merkle_Leaf.f a b = some (sumB (leafT ⟨a, b⟩)) := by
 have e0 := enc1_le a (by omega)
 have e1 := enc1_le b (by omega)
 unfold merkle_Leaf.f
 rw [text_f _ (by omega), text_f _ (by omega)]
 simp only [Option.bind_some]
 rw [if_pos (by omega), if_pos (by rw [ByteArray.size_append, one_size]; omega), sum_f _ (by rw [ByteArray.size_append, ByteArray.size_append, one_size]; omega), Option.bind_some]
 rfl
theorem rleaf_f (a b : ByteArray) (k : Nat) (hk : 12 ≤ k) (h0 : a.size ≤ 1000) (h1 : b.size ≤ 1000) : footbridgeref11_LeafText.f k a b = some (leafT ⟨a, b⟩) := by
 have e0 := enc1_le a (by omega)
 have e1 := enc1_le b (by omega)
 unfold footbridgeref11_LeafText.f
 rw [lay_text _ k hk, lay_text _ k hk, text_f _ (by omega), text_f _ (by omega)]
 simp only [Option.bind_some]
 rw [if_pos (by omega), if_pos (by rw [ByteArray.size_append, one_size]; omega)]
 rfl
theorem node_f (a b : ByteArray) (h0 : a.size ≤ 1000000) (h1 : b.size ≤ 1000000) : merkle_Node.f a b = some (sumB (nodeT a b)) := by
 unfold merkle_Node.f
 rw [if_pos (by omega), if_pos (by rw [ByteArray.size_append, one_size]; omega), sum_f _ (by rw [ByteArray.size_append, ByteArray.size_append, one_size]; omega), Option.bind_some]
 rfl
theorem rnode_f (a b : ByteArray) (h0 : a.size ≤ 1000000) (h1 : b.size ≤ 1000000) : footbridgeref11_NodeText.f a b = some (nodeT a b) := by
 unfold footbridgeref11_NodeText.f
 rw [if_pos (by omega), if_pos (by rw [ByteArray.size_append, one_size]; omega)]
 rfl
theorem top_f (n : Int) (t : ByteArray) (ht : t.size ≤ 1000000) : merkle_Top.f n t = some (sumB (topT n t)) := by
 obtain ⟨e, he⟩ := numE_f n
 have := size_numE n
 unfold merkle_Top.f
 rw [he]
 simp only [Option.bind_some]
 rw [if_pos (by omega), if_pos (by rw [ByteArray.size_append, one_size]; omega), sum_f _ (by rw [ByteArray.size_append, ByteArray.size_append, one_size]; omega), Option.bind_some]
 rfl
def sp (n : Nat) : Nat := if n < 2 then 0 else 2 ^ (n - 1).log2
theorem sp_bounds (n : Nat) (h : 2 ≤ n) : 1 ≤ sp n ∧ sp n < n ∧ n ≤ 2 * sp n := by
 unfold sp
 rw [if_neg (by omega)]
 have h1 := Nat.log2_self_le (n := n - 1) (by omega)
 have h2 := Nat.lt_log2_self (n := n - 1)
 have h3 : 0 < 2 ^ (n - 1).log2 := Nat.two_pow_pos _
 rw [Nat.pow_succ] at h2
 omega
theorem sp_eq (n j : Nat) (h : 2 ^ j < n) (h2 : n ≤ 2 * 2 ^ j) : sp n = 2 ^ j := by
 have h3 : 0 < 2 ^ j := Nat.two_pow_pos _
 unfold sp
 rw [if_neg (by omega)]
 congr 1
 rw [Nat.log2_eq_iff (by omega), Nat.pow_succ]
 omega
theorem log_lt (n : Nat) (h : 2 ≤ n) (hn : n ≤ 1099511627776) : (n - 1).log2 < 40 := by
 rw [Nat.log2_lt (by omega)]
 omega
theorem split_f (n : Nat) (hn : n ≤ 1099511627776) : merkle_Split.f (n : Int) = some (sp n : Int) := by
 unfold merkle_Split.f
 by_cases h : n < 2
 · rw [if_pos (by omega)]
   unfold sp
   rw [if_pos h]
   rfl
 · have hl := log_lt n (by omega) hn
   have w1 : wrap64 ((n : Int) - 1) = ((n - 1 : Nat) : Int) := by rw [w64 (by omega) (by omega)]; omega
   have w2 : IntKind.u64.wrap ((n - 1 : Nat) : Int) = ((n - 1 : Nat) : Int) := by simp [IntKind.wrap, IntKind.bits, IntKind.signed]; omega
   have hb : bitLen (n - 1) = (n - 1).log2 + 1 := by unfold bitLen; rw [if_neg (by omega)]
   have w3 : wrap64 ((((n - 1).log2 + 1 : Nat) : Int) - 1) = (((n - 1).log2 : Nat) : Int) := by rw [w64 (by omega) (by omega)]; omega
   rw [if_neg (by omega), w1, w2]
   unfold bits_Len.f
   rw [if_pos (by omega), if_pos (by omega), Int.toNat_natCast, hb, Option.bind_some, w3, if_pos (by omega)]
   unfold sp
   rw [if_neg h]
   congr 1
   generalize (n - 1).log2 = j at hl
   clear w1 w2 w3 hb
   revert j
   decide +kernel
theorem rsplit_l0 (n : Nat) (hn : n ≤ 1099511627776) : ∀ (d j k : Nat), j + d = 41 → 2 ^ j < n → d < k → footbridgeref11_Split.l0 k (n : Int) ((2 ^ j : Nat) : Int) = some (sp n : Int) := by
 intro d
 induction d with
 | zero =>
  intro j k hj h hk
  obtain rfl : j = 41 := by omega
  have : (2 : Nat) ^ 41 = 2199023255552 := rfl
  omega
 | succ d ih =>
  intro j k hj h hk
  obtain ⟨k, rfl⟩ : ∃ q, k = q + 1 := ⟨k - 1, by omega⟩
  obtain ⟨p, hp⟩ : ∃ p, p = 2 ^ j := ⟨_, rfl⟩
  have hs : 2 ^ (j + 1) = 2 * p := by rw [Nat.pow_succ, hp]; omega
  have hp1 : p < n := by rw [hp]; exact h
  rw [← hp]
  have w1 : wrap64 ((n : Int) - (p : Int)) = ((n - p : Nat) : Int) := by rw [w64 (by omega) (by omega)]; omega
  have w2 : wrap64 (2 * (p : Int)) = ((2 * p : Nat) : Int) := by rw [w64 (by omega) (by omega)]; omega
  rw [footbridgeref11_Split.l0, w1, w2]
  by_cases h2 : 2 * p < n
  · have := ih (j + 1) k (by omega) (by rw [hs]; exact h2) (by omega)
    rw [hs] at this
    rw [if_pos (by clear w1 w2; omega)]
    exact this
  · rw [if_neg (by clear w1 w2; omega), sp_eq n j (by rw [← hp]; exact hp1) (by rw [← hp]; omega), hp]
theorem rsplit_f (n : Nat) (hn : n ≤ 1099511627776) (k : Nat) (hk : 50 ≤ k) : footbridgeref11_Split.f k (n : Int) = some (sp n : Int) := by
 unfold footbridgeref11_Split.f
 by_cases h : n < 2
 · rw [if_pos (by omega)]
   unfold sp
   rw [if_pos h]
   rfl
 · rw [if_neg (by omega)]
   exact rsplit_l0 n hn 41 0 k (by omega) (by simp; omega) (by omega)
def short (m : Nat) (l : List S86) : Prop := ∀ p ∈ l, p.f0.size ≤ m ∧ p.f1.size ≤ m
theorem short_take {m : Nat} {l : List S86} (h : short m l) (n : Nat) : short m (l.take n) := fun p hp => h p (List.mem_of_mem_take hp)
theorem short_drop {m : Nat} {l : List S86} (h : short m l) (n : Nat) : short m (l.drop n) := fun p hp => h p (List.mem_of_mem_drop hp)
theorem rd_mem {l : List S86} (i : Nat) (h : i < l.length) : rd_T86 l (i : Int) = l[i] := by
 unfold rd_T86
 rw [Int.toNat_natCast, List.getD_eq_getElem?_getD, List.getElem?_eq_getElem h]
 rfl
def tree : Nat → List S86 → ByteArray
 | 0, _ => ⟨#[]⟩
 | d + 1, l => if l.length = 0 then ⟨#[]⟩ else if l.length = 1 then sumB (leafT (rd_T86 l 0)) else sumB (nodeT (tree d (l.take (sp l.length))) (tree d (l.drop (sp l.length))))
def alls : Nat → List S86 → List ByteArray
 | 0, _ => []
 | d + 1, l => if l.length = 0 then [] else if l.length = 1 then [leafT (rd_T86 l 0)] else
   alls d (l.take (sp l.length)) ++ alls d (l.drop (sp l.length)) ++ [nodeT (tree d (l.take (sp l.length))) (tree d (l.drop (sp l.length)))]
theorem tree_size (d : Nat) (l : List S86) : (tree d l).size ≤ 32 := by
 cases d with
 | zero => exact Nat.zero_le _
 | succ d =>
  rw [tree]
  split
  · exact Nat.zero_le _
  · split
    · rw [size_sumB]; exact Nat.le_refl _
    · rw [size_sumB]; exact Nat.le_refl _
theorem parts_len (l : List S86) (h : 2 ≤ l.length) : (l.take (sp l.length)).length = sp l.length ∧ (l.drop (sp l.length)).length = l.length - sp l.length := by
 have := sp_bounds l.length h
 rw [List.length_take, List.length_drop]
 omega
theorem alls_len : ∀ (d : Nat) (l : List S86), (alls d l).length ≤ 2 * l.length - 1 := by
 intro d
 induction d with
 | zero => intro l; exact Nat.zero_le _
 | succ d ih =>
  intro l
  rw [alls]
  split
  · exact Nat.zero_le _
  · split
    · simp; omega
    · have hp := parts_len l (by omega)
      have hb := sp_bounds l.length (by omega)
      have h1 := ih (l.take (sp l.length))
      have h2 := ih (l.drop (sp l.length))
      rw [List.length_append, List.length_append, List.length_singleton]
      omega
theorem rd_short {l : List S86} {m : Nat} (hs : short m l) (h : 0 < l.length) : (rd_T86 l 0).f0.size ≤ m ∧ (rd_T86 l 0).f1.size ≤ m := by
 have := rd_mem (l := l) 0 h
 rw [show ((0 : Nat) : Int) = 0 from rfl] at this
 rw [this]
 exact hs _ (List.getElem_mem _)
theorem fold_f : ∀ (d : Nat) (l : List S86) (k : Nat), 1 ≤ l.length → l.length ≤ d → l.length ≤ k → l.length ≤ 1000 → short 200 l → merkle_fold.f k l = some (tree d l) := by
 intro d
 induction d with
 | zero => intro l k h1 h2 _ _ _; omega
 | succ d ih =>
  intro l k h1 h2 hk hl hs
  obtain ⟨k, rfl⟩ : ∃ q, k = q + 1 := ⟨k - 1, by omega⟩
  rw [merkle_fold.f, tree, if_neg (show ¬ l.length = 0 by omega)]
  by_cases h : l.length = 1
  · have := rd_short hs (by omega)
    rw [if_pos h, if_pos h, leaf_f _ _ (by omega) (by omega)]
  · have hp := parts_len l (by omega)
    have hb := sp_bounds l.length (by omega)
    rw [if_neg h, if_neg h, split_f _ (by omega), Option.bind_some, if_pos (by omega), if_pos (by omega), Int.toNat_natCast,
     ih (l.take (sp l.length)) k (by omega) (by omega) (by omega) (by omega) (short_take hs _), Option.bind_some,
     ih (l.drop (sp l.length)) k (by omega) (by omega) (by omega) (by omega) (short_drop hs _), Option.bind_some,
     node_f _ _ (by have := tree_size d (l.take (sp l.length)); omega) (by have := tree_size d (l.drop (sp l.length)); omega)]
theorem rtree_f : ∀ (d : Nat) (l : List S86) (k : Nat), l.length ≤ d → d + 60 ≤ k → l.length ≤ 1000 → short 200 l → footbridgeref11_Tree.f k l = some (tree d l, alls d l) := by
 intro d
 induction d with
 | zero =>
  intro l k h2 hk hl hs
  obtain ⟨k, rfl⟩ : ∃ q, k = q + 1 := ⟨k - 1, by omega⟩
  rw [footbridgeref11_Tree.f, if_pos (by omega)]
  rfl
 | succ d ih =>
  intro l k h2 hk hl hs
  obtain ⟨k, rfl⟩ : ∃ q, k = q + 1 := ⟨k - 1, by omega⟩
  rw [footbridgeref11_Tree.f, tree, alls]
  by_cases h0 : l.length = 0
  · rw [if_pos (by omega), if_pos h0, if_pos h0]
  · rw [if_neg (by omega), if_neg h0, if_neg h0]
    by_cases h : l.length = 1
    · have := rd_short hs (by omega)
      have e0 := enc1_le (rd_T86 l 0).f0 (by omega)
      have e1 := enc1_le (rd_T86 l 0).f1 (by omega)
      rw [if_pos (by omega), if_pos (by omega), if_pos h, if_pos h, rleaf_f _ _ k (by omega) (by omega) (by omega), Option.bind_some, rsum_f _ (by rw [size_leafT]; simp only; omega), Option.bind_some]
    · have hp := parts_len l (by omega)
      have hb := sp_bounds l.length (by omega)
      have a1 := alls_len d (l.take (sp l.length))
      have a2 := alls_len d (l.drop (sp l.length))
      have t1 := tree_size d (l.take (sp l.length))
      have t2 := tree_size d (l.drop (sp l.length))
      rw [if_neg (by omega), if_neg h, if_neg h, rsplit_f _ (by omega) k (by omega), Option.bind_some, if_pos (by omega), if_pos (by omega), Int.toNat_natCast,
       ih (l.take (sp l.length)) k (by omega) (by omega) (by omega) (short_take hs _), Option.bind_some,
       ih (l.drop (sp l.length)) k (by omega) (by omega) (by omega) (short_drop hs _), Option.bind_some,
       rnode_f _ _ (by dsimp only; omega) (by dsimp only; omega), Option.bind_some, if_pos (by simp only [List.length_nil]; omega), Option.bind_some,
       if_pos (by rw [List.nil_append]; dsimp only; omega), Option.bind_some, if_pos (by rw [List.nil_append, List.length_append]; dsimp only; omega),
       rsum_f _ (by rw [size_nodeT]; dsimp only; omega), Option.bind_some, List.nil_append]
def rootP (l : List S86) : ByteArray := sumB (topT (l.length : Int) (tree 20 l))
def rootA (l : List S86) : List ByteArray := alls 20 l ++ [topT (l.length : Int) (tree 20 l)]
theorem root_f (l : List S86) (hl : l.length ≤ 20) (hs : short 200 l) : merkle_Root.f l = some (rootP l) := by
 unfold merkle_Root.f
 by_cases h : l.length = 0
 · have e : tree 20 l = ⟨#[]⟩ := by rw [tree, if_pos h]
   rw [if_pos h, top_f _ _ (by exact Nat.zero_le _), rootP, e, h]
   rfl
 · rw [if_neg h, fold_f 20 l l.length (by omega) hl (Nat.le_refl _) (by omega) hs, Option.bind_some, top_f _ _ (by have := tree_size 20 l; omega)]
   rfl
end Go.Proofs.Ytipgldfbjlhpoab.Pure
namespace Go.Proofs.Ytipgldfbjlhpoab.Pure
set_option linter.unusedVariables false
set_option linter.unusedSimpArgs false
open Go.RowKit Go.Proofs.Ytipgldfbjlhpoab.P
theorem less_cons (a b : UInt8) (x y : List UInt8) : Op.bytesLess (a :: x) (b :: y) = true ↔ a < b ∨ (a = b ∧ Op.bytesLess x y = true) := by
 simp only [Op.bytesLess]
 by_cases h1 : a < b
 · simp [h1]
 · by_cases h2 : a = b
   · subst h2
     simp [h1]
   · have : b < a := by
      rcases Nat.lt_trichotomy a.toNat b.toNat with h | h | h
      · exact absurd (UInt8.lt_iff_toNat_lt.mpr h) h1
      · exact absurd (UInt8.toNat_inj.mp h) h2
      · exact UInt8.lt_iff_toNat_lt.mpr h
     simp [h1, h2, this]
theorem less_nil (x : List UInt8) : Op.bytesLess x [] = false := by cases x <;> rfl
theorem less_irrefl : ∀ x : List UInt8, Op.bytesLess x x = false := by
 intro x
 induction x with
 | nil => rfl
 | cons a x ih =>
  rw [Bool.eq_false_iff]
  intro h
  rcases (less_cons _ _ _ _).mp h with h | ⟨_, h⟩
  · exact absurd (UInt8.lt_iff_toNat_lt.mp h) (Nat.lt_irrefl _)
  · rw [ih] at h
    cases h
theorem less_trans : ∀ x y z : List UInt8, Op.bytesLess x y = true → Op.bytesLess y z = true → Op.bytesLess x z = true := by
 intro x
 induction x with
 | nil =>
  intro y z h1 h2
  cases z with
  | nil => rw [less_nil] at h2; cases h2
  | cons c z => rfl
 | cons a x ih =>
  intro y z h1 h2
  cases y with
  | nil => rw [less_nil] at h1; cases h1
  | cons b y =>
   cases z with
   | nil => rw [less_nil] at h2; cases h2
   | cons c z =>
    rw [less_cons] at h1 h2 ⊢
    rcases h1 with h1 | ⟨rfl, h1⟩
    · rcases h2 with h2 | ⟨rfl, h2⟩
      · exact Or.inl (UInt8.lt_iff_toNat_lt.mpr (Nat.lt_trans (UInt8.lt_iff_toNat_lt.mp h1) (UInt8.lt_iff_toNat_lt.mp h2)))
      · exact Or.inl h1
    · rcases h2 with h2 | ⟨rfl, h2⟩
      · exact Or.inl h2
      · exact Or.inr ⟨rfl, ih _ _ h1 h2⟩
theorem less_tri : ∀ x y : List UInt8, Op.bytesLess x y = false → Op.bytesLess y x = false → x = y := by
 intro x
 induction x with
 | nil =>
  intro y h1 h2
  cases y with
  | nil => rfl
  | cons b y => cases h1
 | cons a x ih =>
  intro y h1 h2
  cases y with
  | nil => cases h2
  | cons b y =>
   rw [Bool.eq_false_iff, ne_eq, less_cons] at h1 h2
   have hab : a = b := by
    rcases Nat.lt_trichotomy a.toNat b.toNat with h | h | h
    · exact absurd (Or.inl (UInt8.lt_iff_toNat_lt.mpr h)) h1
    · exact UInt8.toNat_inj.mp h
    · exact absurd (Or.inl (UInt8.lt_iff_toNat_lt.mpr h)) h2
   subst hab
   rw [ih y (by rw [Bool.eq_false_iff]; intro h; exact h1 (Or.inr ⟨rfl, h⟩)) (by rw [Bool.eq_false_iff]; intro h; exact h2 (Or.inr ⟨rfl, h⟩))]
theorem less_asymm {x y : List UInt8} (h : Op.bytesLess x y = true) : Op.bytesLess y x = false := by
 rw [Bool.eq_false_iff]
 intro h2
 have := less_trans _ _ _ h h2
 rw [less_irrefl] at this
 cases this
theorem toList_inj {a b : ByteArray} (h : a.toList = b.toList) : a = b := by
 rw [ByteArray.toList_eq, ByteArray.toList_eq] at h
 cases a
 cases b
 congr 1
 exact Array.toList_inj.mp h
def Up {α : Type} (key : α → List UInt8) : List α → Prop
 | [] => True
 | x :: l => (∀ y ∈ l, Op.bytesLess (key x) (key y) = true) ∧ Up key l
theorem up_of {α : Type} (key : α → List UInt8) : ∀ l : List α, (∀ i (h : i + 1 < l.length), Op.bytesLess (key l[i]) (key l[i + 1]) = true) → Up key l := by
 intro l
 induction l with
 | nil => intro _; exact trivial
 | cons x l ih =>
  intro h
  have hl : Up key l := ih (fun i hi => h (i + 1) (by simp; omega))
  refine ⟨?_, hl⟩
  cases l with
  | nil => intro y hy; cases hy
  | cons z l =>
   have hz : Op.bytesLess (key x) (key z) = true := h 0 (by simp)
   intro y hy
   rcases List.mem_cons.mp hy with rfl | hy
   · exact hz
   · exact less_trans _ _ _ hz (hl.1 y hy)
theorem of_up {α : Type} (key : α → List UInt8) : ∀ l : List α, Up key l → ∀ i (h : i + 1 < l.length), Op.bytesLess (key l[i]) (key l[i + 1]) = true := by
 intro l
 induction l with
 | nil => intro _ i h; simp at h
 | cons x l ih =>
  intro hu i h
  cases i with
  | zero => exact hu.1 _ (List.getElem_mem (by simpa using h))
  | succ i => exact ih hu.2 i (by simpa using h)
end Go.Proofs.Ytipgldfbjlhpoab.Pure
namespace Go.Proofs.Ytipgldfbjlhpoab.P
open Go.RowKit
theorem geq_str (a b : ByteArray) (W : World) : (binOp .geq 9 (.string a) (.string b)).run Try.prog W = .ok (.bool (!Op.bytesLess a.toList b.toList)) W := by
 simp only [binOp]
 first
 | (go_simp; done)
 | rfl
theorem gtr_str (a b : ByteArray) (W : World) : (binOp .gtr 9 (.string a) (.string b)).run Try.prog W = .ok (.bool (!(Op.bytesLess a.toList b.toList || a.toList == b.toList))) W := by
 simp only [binOp]
 first
 | (go_simp; done)
 | rfl
end Go.Proofs.Ytipgldfbjlhpoab.P
-- Printed by wip/myprint.py.
namespace Go.Proofs.Ytipgldfbjlhpoab.P
open Go.RowKit Go.Proofs.YtipgldfbjlhpoabW.PrintWords Go.Proofs.YtipgldfbjlhpoabW.PrintLast Go.Proofs.YtipgldfbjlhpoabW.PrintMore
attribute [local go_sem] max2_int min2_int max_two min_two max_three min_three max_four min_four   -- for this text's walks alone
attribute [local go_sem] geq_str gtr_str
set_option linter.unusedVariables false
set_option linter.unusedSimpArgs false
def footbridgeref12_Rises.l0 : Nat → List (S86) → Int → Option (Bool)
 | 0, _, _ => none
 | k + 1, x0, x3 => if x3 < (x0.length : Int) then (if 0 ≤ (wrap64 (x3 - 1)) then (if (wrap64 (x3 - 1)) < (x0.length : Int) then (if 0 ≤ x3 then (if ((Op.bytesLess (((rd_T86 x0 (wrap64 (x3 - 1))).f0).toList) (((rd_T86 x0 x3).f0).toList)) = true) then (footbridgeref12_Rises.l0 k x0 (wrap64 (x3 + 1))) else (some false)) else (none)) else (none)) else (none)) else (some true)
def footbridgeref12_Rises.f (k : Nat) (l0 : List (S86)) : Option (Bool) := footbridgeref12_Rises.l0 k l0 1
set_option maxHeartbeats 8000000 in
set_option maxRecDepth 100000 in
theorem footbridgeref12_Rises.calls (k : Nat) (A0 : Option Addr) (c0 : Nat) (l0 : List (S86)) (r : Bool) (w : World) (hr0 : Kd.C k86 w A0 l0.length l0) (hc0 : l0.length ≤ c0) (h : footbridgeref12_Rises.f k l0 = some r) :
  Calls Try.prog 39 #[.slice A0 l0.length c0] w fun e w' => e = .returned (.bool r) ∧ Drawn0 w w' := by
 have HR0 := Aside0.mk hr0
 have HC0 := Aside0.mk hc0
 clear hr0 hc0
 have H : (footbridgeref12_Rises.l0 k l0 1) = some r := h
 clear h
 have H' := Aside0.mk H
 clear H
 go_enter Try.func39, Try.ntmps39
 go_wp2
 repeat (go_quiet (fail); try go_wp2)
 go_loopg [3] k (fun kq v3 w' => ∃ (x3_1 : Int), v3 = .int .i64 x3_1 ∧ Aside0 (footbridgeref12_Rises.l0 kq l0 x3_1 = some r) ∧ Aside0 (kq ≤ k) ∧ Drawn0 w w')
 case atStart => exact ⟨(1), (by first | rfl | (simp; done) | (simp [*]; done)), H', ⟨Nat.le_refl _⟩, by repeat (first | exact Drawn0.refl _ | apply Drawn0.step)⟩
 case round =>
  clear H'
  obtain ⟨x3_1, rfl, HA, HK1, ⟨m1, rfl⟩⟩ := hrel
  cases gk with
  | zero => exact absurd HA.out (by simp [footbridgeref12_Rises.l0])
  | succ k1 =>
   have H := HA.out
   clear HA
   simp only [footbridgeref12_Rises.l0] at H
   by_cases c2 : x3_1 < (l0.length : Int)
   · rw [if_pos c2] at H
     have c2b0 : decide (x3_1 < (l0.length : Int)) = true := decide_eq_true c2
     clear c2
     obtain ⟨ji3, hji3⟩ : ∃ j_ : Int, (wrap64 (x3_1 - 1)) = j_ := ⟨_, rfl⟩
     replace H : (if 0 ≤ (ji3) then (if (ji3) < (l0.length : Int) then (if 0 ≤ x3_1 then (if ((Op.bytesLess (((rd_T86 l0 (ji3)).f0).toList) (((rd_T86 l0 x3_1).f0).toList)) = true) then (footbridgeref12_Rises.l0 k1 l0 (wrap64 (x3_1 + 1))) else (some false)) else (none)) else (none)) else (none)) = some r := by first | (rw [hji3] at H; exact H) | (simp only [hji3] at H ⊢; exact H)
     have hji3w : (IntKind.i64.wrap (x3_1 - 1)) = ji3 := (i64_w _).trans hji3
     by_cases c4 : 0 ≤ (ji3)
     · rw [if_pos c4] at H
       have c4b0 : decide (0 ≤ (ji3)) = true := decide_eq_true c4
       clear c4
       by_cases c5 : (ji3) < (l0.length : Int)
       · rw [if_pos c5] at H
         have c5b0 : decide ((ji3) < (l0.length : Int)) = true := decide_eq_true c5
         clear c5
         by_cases c6 : 0 ≤ x3_1
         · rw [if_pos c6] at H
           have c6b0 : decide (0 ≤ x3_1) = true := decide_eq_true c6
           clear c6
           by_cases c7 : ((Op.bytesLess (((rd_T86 l0 (ji3)).f0).toList) (((rd_T86 l0 x3_1).f0).toList)) = true)
           · rw [if_pos c7] at H
             have c7b0 : (Op.bytesLess (((rd_T86 l0 (ji3)).f0).toList) (((rd_T86 l0 x3_1).f0).toList)) = true := c7
             clear c7
             have H' := Aside0.mk H
             clear H
             have p384 : 0 ≤ ((ji3) : Int) := of_decide_eq_true (by first | (with_reducible assumption) | assumption)
             have q384 : (ji3) < (l0.length : Int) := of_decide_eq_true (by first | (with_reducible assumption) | assumption)
             obtain ⟨ad384, e384, hx384_0, hx384_1⟩ := at_T86 HR0.out (ji3) p384 q384
             cases e384
             replace p384 := eq_true p384
             replace q384 := eq_true q384
             have p385 : 0 ≤ (x3_1 : Int) := of_decide_eq_true (by first | (with_reducible assumption) | assumption)
             have q385 : x3_1 < (l0.length : Int) := of_decide_eq_true (by first | (with_reducible assumption) | assumption)
             obtain ⟨ad385, e385, hx385_0, hx385_1⟩ := at_T86 HR0.out x3_1 p385 q385
             obtain rfl : ad384 = ad385 := (by injection e385)
             replace p385 := eq_true p385
             replace q385 := eq_true q385
             go_wp2
             repeat (go_quiet (fail); try go_wp2)
             go_roundg k1
             case measure => have := HK1.out; omega
             case rel => exact ⟨(wrap64 (x3_1 + 1)), (by first | rfl | (simp; done) | (simp [*]; done)), H', ⟨by have := HK1.out; omega⟩, by repeat (first | exact Drawn0.refl _ | apply Drawn0.step)⟩
           · rw [if_neg c7] at H
             have c7b0 : (Op.bytesLess (((rd_T86 l0 (ji3)).f0).toList) (((rd_T86 l0 x3_1).f0).toList)) = false := by simpa using c7
             clear c7
             obtain rfl := Option.some.inj H
             have p384 : 0 ≤ ((ji3) : Int) := of_decide_eq_true (by first | (with_reducible assumption) | assumption)
             have q384 : (ji3) < (l0.length : Int) := of_decide_eq_true (by first | (with_reducible assumption) | assumption)
             obtain ⟨ad384, e384, hx384_0, hx384_1⟩ := at_T86 HR0.out (ji3) p384 q384
             cases e384
             replace p384 := eq_true p384
             replace q384 := eq_true q384
             have p385 : 0 ≤ (x3_1 : Int) := of_decide_eq_true (by first | (with_reducible assumption) | assumption)
             have q385 : x3_1 < (l0.length : Int) := of_decide_eq_true (by first | (with_reducible assumption) | assumption)
             obtain ⟨ad385, e385, hx385_0, hx385_1⟩ := at_T86 HR0.out x3_1 p385 q385
             obtain rfl : ad384 = ad385 := (by injection e385)
             replace p385 := eq_true p385
             replace q385 := eq_true q385
             go_wp2
             repeat (go_quiet (fail); try go_wp2)
             go_ret
             exact ⟨by first | rfl | (simp; done) | (simp only [← hji3] <;> (first | rfl | simp)) | (simp [*]; done), by repeat (first | exact Drawn0.refl _ | apply Drawn0.step)⟩
         · rw [if_neg c6] at H
           exact absurd H (by simp)
       · rw [if_neg c5] at H
         exact absurd H (by simp)
     · rw [if_neg c4] at H
       exact absurd H (by simp)
   · rw [if_neg c2] at H
     have c2b0 : decide (x3_1 < (l0.length : Int)) = false := decide_eq_false c2
     clear c2
     obtain rfl := Option.some.inj H
     go_wp2
     repeat (go_quiet (fail); try go_wp2)
     go_ret
     exact ⟨by first | rfl | (simp; done) | (simp [*]; done), by repeat (first | exact Drawn0.refl _ | apply Drawn0.step)⟩
end Go.Proofs.Ytipgldfbjlhpoab.P
namespace Go.Proofs.Ytipgldfbjlhpoab.P
open Go.Shelf
def cpR : Go.Shelf.Ren := ⟨fun | 106 => 122 | 213 => 157 | 265 => 177 | n => n, fun n => n, fun n => n⟩
theorem cpL : Go.Proofs.Lays.n106 Try.prog cpR := {
 mixed := by kernel_rfl
 f106 := Try.func122.trans (congrArg some (by kernel_rfl))
 f213 := Try.func157.trans (congrArg some (by kernel_rfl))
 f265 := Try.func177.trans (congrArg some (by kernel_rfl))
 t3 := Try.underlying3
 a3 := Try.isAgg3
 z3 := Try.sizeOf3
 v3 := Try.zeroValue3
 t9 := Try.underlying9
 a9 := Try.isAgg9
 z9 := Try.sizeOf9
 v9 := Try.zeroValue9 }
open Go.RowKit in
theorem strings_Compare (a b : ByteArray) (w : World) :
  Calls Try.prog 122 #[.string a, .string b] w fun e w' => e = .returned (.int .i64 (Lib.compareBytes a.data.toList b.data.toList)) ∧ w' = w := Go.Proofs.Any.strings_Compare cpL a b w
end Go.Proofs.Ytipgldfbjlhpoab.P
namespace Go.Proofs.Ytipgldfbjlhpoab.Pure
theorem cmp_neg : ∀ x y : List UInt8, Lib.compareBytes x y < 0 ↔ Op.bytesLess x y = true := by
 intro x
 induction x with
 | nil =>
  intro y
  cases y with
  | nil => simp [Lib.compareBytes, Op.bytesLess]
  | cons b y => simp [Lib.compareBytes, Op.bytesLess]
 | cons a x ih =>
  intro y
  cases y with
  | nil => simp [Lib.compareBytes, Op.bytesLess]
  | cons b y =>
   rw [less_cons, Lib.compareBytes]
   by_cases h1 : a < b
   · simp [h1]
   · rw [if_neg h1]
     by_cases h2 : b < a
     · rw [if_pos h2]
       constructor
       · intro h; omega
       · rintro (h | ⟨rfl, h⟩)
         · exact absurd h h1
         · exact absurd h2 h1
     · rw [if_neg h2, ih]
       have hab : a = b := by
        rcases Nat.lt_trichotomy a.toNat b.toNat with h | h | h
        · exact absurd (UInt8.lt_iff_toNat_lt.mpr h) h1
        · exact UInt8.toNat_inj.mp h
        · exact absurd (UInt8.lt_iff_toNat_lt.mpr h) h2
       constructor
       · intro h; exact Or.inr ⟨hab, h⟩
       · rintro (h | ⟨_, h⟩)
         · exact absurd h h1
         · exact h
theorem cmp_zero : ∀ x y : List UInt8, Lib.compareBytes x y = 0 ↔ x = y := by
 intro x
 induction x with
 | nil =>
  intro y
  cases y with
  | nil => simp [Lib.compareBytes]
  | cons b y => simp [Lib.compareBytes]
 | cons a x ih =>
  intro y
  cases y with
  | nil => simp [Lib.compareBytes]
  | cons b y =>
   rw [Lib.compareBytes]
   by_cases h1 : a < b
   · rw [if_pos h1]
     constructor
     · intro h; omega
     · intro h
       injection h with h _
       subst h
       exact absurd (UInt8.lt_iff_toNat_lt.mp h1) (Nat.lt_irrefl _)
   · rw [if_neg h1]
     by_cases h2 : b < a
     · rw [if_pos h2]
       constructor
       · intro h; omega
       · intro h
         injection h with h _
         subst h
         exact absurd h2 h1
     · rw [if_neg h2, ih]
       have hab : a = b := by
        rcases Nat.lt_trichotomy a.toNat b.toNat with h | h | h
        · exact absurd (UInt8.lt_iff_toNat_lt.mpr h) h1
        · exact UInt8.toNat_inj.mp h
        · exact absurd (UInt8.lt_iff_toNat_lt.mpr h) h2
       rw [hab]
       simp
end Go.Proofs.Ytipgldfbjlhpoab.Pure
