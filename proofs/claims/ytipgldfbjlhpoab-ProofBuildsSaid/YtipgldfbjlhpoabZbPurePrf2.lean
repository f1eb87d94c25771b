/- Leaves, trees and paths: what the two sides answer. -/
import Derived.Test.YtipgldfbjlhpoabZbPurePrf1
import Derived.Test.YtipgldfbjlhpoabZbPR12B
namespace Go.Proofs.Ytipgldfbjlhpoab.Pure
set_option linter.unusedVariables false
set_option linter.unusedSimpArgs false
open Go.RowKit Go.Proofs.Ytipgldfbjlhpoab.P Go.Proofs.Ytipgldfbjlhpoab.Wire Go.Proofs.Ytipgldfbjlhpoab.Sha Go.Proofs.YtipgldfbjlhpoabW.PrintWords Go.Proofs.YtipgldfbjlhpoabW.PrintLast
def lvs (l : List Pq) : List ByteArray := l.map fun p => sumB (leafT p)
theorem lvs_len (l : List Pq) : (lvs l).length = l.length := List.length_map _
theorem leaves_f (l : List Pq) (hs : short 200 l) : leavesF l = some (lvs l) := by
 induction l with
 | nil => rfl
 | cons x l ih =>
  have hx := hs x List.mem_cons_self
  rw [leavesF, leaf_f _ _ (by omega) (by omega), Option.bind_some, ih (fun p hp => hs p (List.mem_cons_of_mem _ hp))]
  rfl
theorem ptree_f : ∀ (d : Nat) (l : List Pq) (k : Nat), 1 ≤ l.length → l.length ≤ d → l.length ≤ k → l.length ≤ 1000 → short 200 l → proof_tree.f k (lvs l) = some (tree d l) := by
 intro d
 induction d with
 | zero => intro l k h1 h2 _ _ _; omega
 | succ d ih =>
  intro l k h1 h2 hk hl hs
  obtain ⟨k, rfl⟩ : ∃ q, k = q + 1 := ⟨k - 1, by omega⟩
  have hn := lvs_len l
  rw [proof_tree.f, tree, if_neg (show ¬ l.length = 0 by omega), hn]
  by_cases h : l.length = 1
  · rw [if_pos (by omega), if_pos h, if_pos (by omega)]
    match l, h with
    | [x], _ => rfl
  · have hp := parts_len l (by omega)
    have hb := sp_bounds l.length (by omega)
    have e1 : (lvs l).take (sp l.length) = lvs (l.take (sp l.length)) := by unfold lvs; rw [List.map_take]
    have e2 : (lvs l).drop (sp l.length) = lvs (l.drop (sp l.length)) := by unfold lvs; rw [List.map_drop]
    rw [if_neg (by omega), if_neg h, split_f _ (by omega), Option.bind_some, if_pos (by omega), if_pos (by omega), Int.toNat_natCast, e1, e2,
     ih (l.take (sp l.length)) k (by omega) (by omega) (by omega) (by omega) (short_take hs _), Option.bind_some,
     ih (l.drop (sp l.length)) k (by omega) (by omega) (by omega) (by omega) (short_drop hs _), Option.bind_some,
     node_f _ _ (by have := tree_size d (l.take (sp l.length)); omega) (by have := tree_size d (l.drop (sp l.length)); omega), Option.bind_some]
def pathP : Nat → List Pq → Nat → List ByteArray
 | 0, _, _ => []
 | d + 1, l, i => if l.length < 2 then [] else if i < sp l.length then pathP d (l.take (sp l.length)) i ++ [tree d (l.drop (sp l.length))] else pathP d (l.drop (sp l.length)) (i - sp l.length) ++ [tree d (l.take (sp l.length))]
theorem pathP_len : ∀ (d : Nat) (l : List Pq) (i : Nat), (pathP d l i).length ≤ d := by
 intro d
 induction d with
 | zero => intro l i; exact Nat.le_refl _
 | succ d ih =>
  intro l i
  rw [pathP]
  split
  · exact Nat.zero_le _
  · split
    · have := ih (l.take (sp l.length)) i; rw [List.length_append, List.length_singleton]; omega
    · have := ih (l.drop (sp l.length)) (i - sp l.length); rw [List.length_append, List.length_singleton]; omega
theorem ppath_f : ∀ (d : Nat) (l : List Pq) (k i : Nat), l.length ≤ d → l.length < k → l.length ≤ 1000 → d ≤ 1000 → short 200 l → i ≤ 1000 → proof_path.f k (lvs l) (i : Int) = some (pathP d l i) := by
 intro d
 induction d with
 | zero =>
  intro l k i h2 hk _ _ _ _
  obtain ⟨k, rfl⟩ : ∃ q, k = q + 1 := ⟨k - 1, by omega⟩
  have hn := lvs_len l
  rw [proof_path.f, if_pos (by omega), pathP]
 | succ d ih =>
  intro l k i h2 hk hl hd hs hi
  obtain ⟨k, rfl⟩ : ∃ q, k = q + 1 := ⟨k - 1, by omega⟩
  have hn := lvs_len l
  rw [proof_path.f, pathP, hn]
  by_cases h : l.length < 2
  · rw [if_pos (by omega), if_pos h]
  · have hp := parts_len l (by omega)
    have hb := sp_bounds l.length (by omega)
    have e1 : (lvs l).take (sp l.length) = lvs (l.take (sp l.length)) := by unfold lvs; rw [List.map_take]
    have e2 : (lvs l).drop (sp l.length) = lvs (l.drop (sp l.length)) := by unfold lvs; rw [List.map_drop]
    have p1 := pathP_len d (l.take (sp l.length)) i
    have p2 := pathP_len d (l.drop (sp l.length)) (i - sp l.length)
    rw [if_neg (by omega), if_neg h, split_f _ (by omega), Option.bind_some]
    by_cases hlt : i < sp l.length
    · rw [if_pos (by omega), if_pos hlt, if_pos (by omega), if_pos (by omega), Int.toNat_natCast, e1, e2,
       ih (l.take (sp l.length)) k i (by omega) (by omega) (by omega) (by omega) (short_take hs _) hi, Option.bind_some,
       ptree_f d (l.drop (sp l.length)) k (by omega) (by omega) (by omega) (by omega) (short_drop hs _), Option.bind_some, if_pos (by omega)]
    · have ew : wrap64 ((i : Int) - (sp l.length : Int)) = ((i - sp l.length : Nat) : Int) := by rw [w64 (by omega) (by omega)]; omega
      rw [if_neg (by omega), if_neg hlt, if_pos (by omega), if_pos (by omega), Int.toNat_natCast, ew, e1, e2,
       ih (l.drop (sp l.length)) k (i - sp l.length) (by omega) (by omega) (by omega) (by omega) (short_drop hs _) (by omega), Option.bind_some,
       ptree_f d (l.take (sp l.length)) k (by omega) (by omega) (by omega) (by omega) (short_take hs _), Option.bind_some, if_pos (by omega)]
theorem rpath_f : ∀ (d : Nat) (l : List Pq) (k i : Nat), l.length ≤ d → d + 80 ≤ k → l.length ≤ 1000 → d ≤ 1000 → short 200 l → i ≤ 1000 → footbridgeref12_path.f k l (i : Int) = some (pathP d l i) := by
 intro d
 induction d with
 | zero =>
  intro l k i h2 hk _ _ _ _
  obtain ⟨k, rfl⟩ : ∃ q, k = q + 1 := ⟨k - 1, by omega⟩
  rw [footbridgeref12_path.f, if_pos (by omega), pathP]
 | succ d ih =>
  intro l k i h2 hk hl hd hs hi
  obtain ⟨k, rfl⟩ : ∃ q, k = q + 1 := ⟨k - 1, by omega⟩
  rw [footbridgeref12_path.f, pathP]
  by_cases h : l.length < 2
  · rw [if_pos (by omega), if_pos h]
  · have hp := parts_len l (by omega)
    have hb := sp_bounds l.length (by omega)
    have p1 := pathP_len d (l.take (sp l.length)) i
    have p2 := pathP_len d (l.drop (sp l.length)) (i - sp l.length)
    rw [if_neg (by omega), if_neg h, rsplit_f _ (by omega) k (by omega), Option.bind_some]
    by_cases hlt : i < sp l.length
    · rw [if_pos (by omega), if_pos hlt, if_pos (by omega), if_pos (by omega), Int.toNat_natCast,
       rtree_f d (l.drop (sp l.length)) k (by omega) (by omega) (by omega) (short_drop hs _), Option.bind_some,
       ih (l.take (sp l.length)) k i (by omega) (by omega) (by omega) (by omega) (short_take hs _) hi, Option.bind_some, if_pos (by omega)]
    · have ew : wrap64 ((i : Int) - (sp l.length : Int)) = ((i - sp l.length : Nat) : Int) := by rw [w64 (by omega) (by omega)]; omega
      rw [if_neg (by omega), if_neg hlt, if_pos (by omega), if_pos (by omega), Int.toNat_natCast, ew,
       rtree_f d (l.take (sp l.length)) k (by omega) (by omega) (by omega) (short_take hs _), Option.bind_some,
       ih (l.drop (sp l.length)) k (i - sp l.length) (by omega) (by omega) (by omega) (by omega) (short_drop hs _) (by omega), Option.bind_some, if_pos (by omega)]
end Go.Proofs.Ytipgldfbjlhpoab.Pure
