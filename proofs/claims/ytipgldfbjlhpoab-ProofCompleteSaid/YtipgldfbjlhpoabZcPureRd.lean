/- The plain side of ProofBuilds. -/
import Derived.Test.YtipgldfbjlhpoabZcPureWireR
import Derived.Test.YtipgldfbjlhpoabZcHWrt
import Derived.Test.YtipgldfbjlhpoabZcHLBuilds
import Derived.Test.YtipgldfbjlhpoabZcPProof
import Derived.Test.YtipgldfbjlhpoabZcHBits
import Derived.Test.YtipgldfbjlhpoabZcPWireL
import Derived.Test.YtipgldfbjlhpoabZcPR09S
import Derived.Lib.IndexBytes
namespace Go.Proofs.Ytipgldfbjlhpoab.Pure
set_option linter.unusedVariables false
set_option linter.unusedSimpArgs false
open Go.RowKit Go.Proofs.Ytipgldfbjlhpoab.P Go.Proofs.Ytipgldfbjlhpoab.Wire Go.Proofs.Ytipgldfbjlhpoab.Sha Go.Proofs.YtipgldfbjlhpoabW.PrintWords Go.Proofs.YtipgldfbjlhpoabW.PrintLast
def pathsP (l : List Pq) (lo n : Nat) : List (List ByteArray) := (List.range' lo n).map (pathP 20 l)
theorem paths_f (l : List Pq) (k : Nat) (hl : l.length ≤ 20) (hs : short 200 l) (hk : 20 < k) : ∀ (n lo : Nat), lo + n ≤ 1000 → pathsF k (lvs l) lo n = some (pathsP l lo n) := by
 intro n
 induction n with
 | zero => intro lo _; rfl
 | succ n ih =>
  intro lo h
  rw [pathsF, ppath_f 20 l k lo hl (by omega) (by omega) (by omega) hs (by omega), Option.bind_some, ih (lo + 1) (by omega), Option.bind_some]
  rfl
def isAt (l : List Pq) (key : ByteArray) : Bool := decide (cntL key l < l.length) && decide (cmpK (rd_T86 l (cntL key l : Int)).f0 key = 0)
def hiP (l : List Pq) (key : ByteArray) : Nat := min (cntL key l + 1) l.length
def loP (l : List Pq) (key : ByteArray) : Nat := cntL key l - 1
def nearP (l : List Pq) (key : ByteArray) : List Pq := (l.take (hiP l key)).drop (loP l key)
def bldV (l : List Pq) (key : ByteArray) : Int × Int × Bool × List Pq × List (List ByteArray) :=
 if isAt l key = true then ((l.length : Int), (cntL key l : Int), true, [], [pathP 20 l (cntL key l)]) else ((l.length : Int), (cntL key l : Int), false, nearP l key, pathsP l (loP l key) (hiP l key - loP l key))
theorem pbuild_up (l : List Pq) (key : ByteArray) (k : Nat) (hl : l.length ≤ 20) (hs : short 200 l) (hk : 100 ≤ k) (hu : Up keyQ l) : proof_Build.f k l key = some (bldV l key) := by
 have hc := cntL_le key l
 obtain ⟨b, hb, hbu⟩ := prises l k (by omega) (by omega)
 have h1 : hiP l key = min (cntL key l + 1) l.length := rfl
 have h2 : loP l key = cntL key l - 1 := rfl
 unfold proof_Build.f bldV
 rw [hb, Option.bind_some, if_pos (hbu.mpr hu), if_pos ⟨by omega, cnt_split key l hu⟩, leaves_f l hs, Option.bind_some, ← h1, ← h2]
 by_cases h : isAt l key = true
 · rw [if_pos h, if_pos (show (decide (cntL key l < l.length) && decide (cmpK (rd_T86 l (cntL key l : Int)).f0 key = 0)) = true from h), ppath_f 20 l k _ hl (by omega) (by omega) (by omega) hs (by omega), Option.bind_some]
 · rw [if_neg h, if_neg (show ¬ (decide (cntL key l < l.length) && decide (cmpK (rd_T86 l (cntL key l : Int)).f0 key = 0)) = true from h), paths_f l k hl hs (by omega) _ _ (by omega), Option.bind_some]
   rfl
theorem pbuild_no (l : List Pq) (key : ByteArray) (k : Nat) (hl : l.length ≤ 20) (hk : 100 ≤ k) (hu : ¬ Up keyQ l) : proof_Build.f k l key = some (0, 0, false, [], []) := by
 obtain ⟨b, hb, hbu⟩ := prises l k (by omega) (by omega)
 unfold proof_Build.f
 rw [hb, Option.bind_some, if_neg (fun h => hu (hbu.mp h))]
theorem rb_l0 (l : List Pq) (key : ByteArray) (hl : l.length ≤ 20) : ∀ (d k i : Nat), i + d = cntL key l → ∃ q, q = k ∧ footbridgeref12_Build.l0 (k + d + 1) l key (i : Int) = footbridgeref12_Build.j1 q l key (cntL key l : Int) := by
 have hc := cntL_le key l
 intro d
 induction d with
 | zero =>
  intro k i hi
  obtain rfl : i = cntL key l := by omega
  refine ⟨k, rfl, ?_⟩
  rw [Nat.add_zero, footbridgeref12_Build.l0]
  by_cases h : cntL key l < l.length
  · rw [if_pos (by omega), if_pos (by omega), rd_mem _ h, if_neg (show ¬ Op.bytesLess ((l[cntL key l]'h).f0.toList) key.toList = true from fun hh => by
     have := cnt_at key l _ h rfl
     rw [keyQ, hh] at this
     cases this)]
  · rw [if_neg (by omega)]
 | succ d ih =>
  intro k i hi
  have hil : i < l.length := by omega
  obtain ⟨q, hq, h⟩ := ih k (i + 1) (by omega)
  refine ⟨q, hq, ?_⟩
  rw [← h, footbridgeref12_Build.l0, if_pos (by omega), if_pos (by omega), rd_mem i hil, if_pos (show Op.bytesLess ((l[i]'hil).f0.toList) key.toList = true from cnt_less key l i hil (by omega)), wsuc i (by omega)]
  rfl
theorem near_step (l : List Pq) (lo i : Nat) (h : lo ≤ i) (hi : i < l.length) : (l.take i).drop lo ++ [l[i]] = (l.take (i + 1)).drop lo := by
 rw [List.take_add_one, List.getElem?_eq_getElem hi, List.drop_append_of_le_length (by rw [List.length_take]; omega)]
 rfl
theorem paths_step (l : List Pq) (lo i : Nat) (h : lo ≤ i) : pathsP l lo (i - lo) ++ [pathP 20 l i] = pathsP l lo (i + 1 - lo) := by
 unfold pathsP
 rw [show i + 1 - lo = (i - lo) + 1 by omega, List.range'_1_concat, List.map_append, show lo + (i - lo) = i by omega]
 rfl
theorem rb_l1 (l : List Pq) (key : ByteArray) (hl : l.length ≤ 20) (hs : short 200 l) : ∀ (d k i : Nat), i + d = hiP l key → loP l key ≤ i → d + 120 ≤ k →
  footbridgeref12_Build.l1 k l (cntL key l : Int) (i : Int) (l.length : Int) (cntL key l : Int) false ((l.take i).drop (loP l key)) (pathsP l (loP l key) (i - loP l key)) = some ((l.length : Int), (cntL key l : Int), false, nearP l key, pathsP l (loP l key) (hiP l key - loP l key)) := by
 have hc := cntL_le key l
 have hh : hiP l key = min (cntL key l + 1) l.length := rfl
 intro d
 induction d with
 | zero =>
  intro k i hi hlo hk
  obtain ⟨k, rfl⟩ : ∃ q, k = q + 1 := ⟨k - 1, by omega⟩
  obtain rfl : i = hiP l key := by omega
  rw [footbridgeref12_Build.l1]
  by_cases h : ((hiP l key : Nat) : Int) ≤ (cntL key l : Int)
  · rw [if_pos h, if_neg (by omega)]
    rfl
  · rw [if_neg h]
    rfl
 | succ d ih =>
  intro k i hi hlo hk
  obtain ⟨k, rfl⟩ : ∃ q, k = q + 1 := ⟨k - 1, by omega⟩
  have hil : i < l.length := by omega
  have hn : ((l.take i).drop (loP l key)).length ≤ 20 := by rw [List.length_drop, List.length_take]; omega
  have hp : (pathsP l (loP l key) (i - loP l key)).length ≤ 20 := by unfold pathsP; rw [List.length_map, List.length_range']; omega
  rw [footbridgeref12_Build.l1, if_pos (by omega), if_pos (by omega), if_pos (by omega), if_pos (by omega), rpath_f 20 l k i hl (by omega) (by omega) (by omega) hs (by omega), Option.bind_some, if_pos (by omega), wsuc i (by omega), rd_mem i hil]
  rw [show (⟨(l[i]).f0, (l[i]).f1⟩ : Pq) = l[i] from rfl, near_step l _ i hlo hil, paths_step l _ i hlo]
  exact ih k (i + 1) (by omega) (by omega) (by omega)
theorem rbuild_up (l : List Pq) (key : ByteArray) (k : Nat) (hl : l.length ≤ 20) (hs : short 200 l) (hk : 200 ≤ k) (hu : Up keyQ l) : footbridgeref12_Build.f k l key = some (bldV l key) := by
 have hc := cntL_le key l
 obtain ⟨b, hb, hbu⟩ := rrises l k (by omega) (by omega)
 obtain ⟨q, hq, hl0⟩ := rb_l0 l key hl (cntL key l) (k - cntL key l - 1) 0 (by omega)
 rw [show k - cntL key l - 1 + cntL key l + 1 = k by omega] at hl0
 obtain ⟨q, rfl⟩ : ∃ p, q = p + 2 := ⟨q - 2, by omega⟩
 unfold footbridgeref12_Build.f
 rw [hb, Option.bind_some, if_pos (hbu.mpr hu), show footbridgeref12_Build.l0 k l key 0 = _ from hl0, footbridgeref12_Build.j1]
 have hj2 : ∀ x : Bool, x = isAt l key → footbridgeref12_Build.j2 (q + 1) l (cntL key l : Int) x (l.length : Int) (cntL key l : Int) false = some (bldV l key) := by
  rintro x rfl
  unfold bldV
  rw [footbridgeref12_Build.j2]
  by_cases h : isAt l key = true
  · rw [if_pos h, if_pos h, rpath_f 20 l q _ hl (by omega) (by omega) (by omega) hs (by omega), Option.bind_some]
  · rw [if_neg h, if_neg h]
    have hm : mx 0 (wrap64 ((cntL key l : Int) - 1)) = ((loP l key : Nat) : Int) := by
     have hlo : loP l key = cntL key l - 1 := rfl
     have hw : wrap64 ((cntL key l : Int) - 1) = (cntL key l : Int) - 1 := by unfold wrap64; omega
     rw [hw]
     unfold mx
     omega
    have h0 := rb_l1 l key hl hs (hiP l key - loP l key) q (loP l key) (by have : hiP l key = min (cntL key l + 1) l.length := rfl; have hlo : loP l key = cntL key l - 1 := rfl; omega) (Nat.le_refl _) (by have : hiP l key = min (cntL key l + 1) l.length := rfl; omega)
    rw [Nat.sub_self, show (l.take (loP l key)).drop (loP l key) = [] from List.drop_eq_nil_of_le (by rw [List.length_take]; omega)] at h0
    rw [hm]
    exact h0
 by_cases h : cntL key l < l.length
 · rw [if_pos (by omega), if_pos (by omega)]
   refine hj2 _ ?_
   unfold isAt
   rw [rd_mem _ h]
   rw [Bool.eq_iff_iff]
   simp only [beq_iff_eq, Bool.and_eq_true, decide_eq_true_eq, cmpK_zero]
   exact ⟨fun e => ⟨h, e⟩, fun e => e.2⟩
 · rw [if_neg (by omega)]
   refine hj2 _ ?_
   unfold isAt
   rw [decide_eq_false h, Bool.false_and]
theorem rbuild_no (l : List Pq) (key : ByteArray) (k : Nat) (hl : l.length ≤ 20) (hk : 100 ≤ k) (hu : ¬ Up keyQ l) : footbridgeref12_Build.f k l key = some (0, 0, false, [], []) := by
 obtain ⟨b, hb, hbu⟩ := rrises l k (by omega) (by omega)
 unfold footbridgeref12_Build.f
 rw [hb, Option.bind_some, if_neg (fun h => hu (hbu.mp h))]
theorem bld_small (l : List Pq) (key : ByteArray) (hl : l.length ≤ 20) : (bldV l key).2.2.2.1.length ≤ 1000 ∧ (bldV l key).2.2.2.2.length ≤ 1000 ∧ ∀ p ∈ (bldV l key).2.2.2.2, p.length ≤ 1000 := by
 unfold bldV
 split
 · refine ⟨by simp, by simp, fun p hp => ?_⟩
   rw [List.mem_singleton.mp hp]
   exact Nat.le_trans (pathP_len 20 l _) (by omega)
 · refine ⟨?_, ?_, fun p hp => ?_⟩
   · show (nearP l key).length ≤ 1000
     unfold nearP
     rw [List.length_drop, List.length_take]
     omega
   · show (pathsP l _ _).length ≤ 1000
     unfold pathsP
     rw [List.length_map, List.length_range']
     have : hiP l key = min (cntL key l + 1) l.length := rfl
     omega
   · obtain ⟨i, _, rfl⟩ := List.mem_map.mp (show p ∈ (List.range' _ _).map (pathP 20 l) from hp)
     exact Nat.le_trans (pathP_len 20 l _) (by omega)
theorem ProofBuilds (l : List Pq) (key : ByteArray) : ∃ k, footbridgelaw12_ProofBuilds.f k l key = some true := by
 refine ⟨3000, ?_⟩
 obtain ⟨k, hk⟩ : ∃ k : Nat, k = 3000 := ⟨_, rfl⟩
 rw [← hk]
 obtain ⟨b, hb, hbs⟩ := few12_f l 20 (by omega) k (by omega)
 unfold footbridgelaw12_ProofBuilds.f
 rw [show footbridgelaw12_few.f k l 20 = some b from hb, Option.bind_some]
 by_cases h : b = true ∧ ¬ (key.size : Int) > 100
 · obtain ⟨h1, h2⟩ := hbs h.1
   have hs : short 200 l := fun p hp => by have := h2 p hp; omega
   rw [if_pos h]
   by_cases hu : Up keyQ l
   · have hb := bld_small l key h1
     rw [pbuild_up l key k h1 hs (by omega) hu, Option.bind_some, rbuild_up l key k h1 hs (by omega) hu, Option.bind_some]
     exact same12 _ _ _ _ _ k hb.1 hb.2.1 hb.2.2 (by omega)
   · rw [pbuild_no l key k h1 (by omega) hu, Option.bind_some, rbuild_no l key k h1 (by omega) hu, Option.bind_some]
     exact same12 _ _ _ _ _ k (by simp) (by simp) (fun p hp => by cases hp) (by omega)
 · rw [if_neg h]
end Go.Proofs.Ytipgldfbjlhpoab.Pure
namespace Go.Proofs.Ytipgldfbjlhpoab.Pure
set_option linter.unusedVariables false
set_option linter.unusedSimpArgs false
open Go.RowKit Go.Proofs.Ytipgldfbjlhpoab.P Go.Proofs.Ytipgldfbjlhpoab.Wire Go.Proofs.Ytipgldfbjlhpoab.Sha Go.Proofs.YtipgldfbjlhpoabW.PrintWords Go.Proofs.YtipgldfbjlhpoabW.PrintLast
theorem log_lt63 (n : Nat) (h : 2 ≤ n) (hn : n < 9223372036854775808) : (n - 1).log2 < 63 := by
 rw [Nat.log2_lt (by omega)]
 omega
def spI (n : Int) : Int := (sp n.toNat : Int)
theorem spI_nat (n : Nat) : spI (n : Int) = (sp n : Int) := by unfold spI; rw [Int.toNat_natCast]
theorem spI_bounds (n : Int) (h : 2 ≤ n) : 1 ≤ spI n ∧ spI n < n := by
 have := sp_bounds n.toNat (by omega)
 unfold spI
 omega
theorem splitI_f (n : Int) (hn : n < 9223372036854775808) : merkle_Split.f n = some (spI n) := by
 unfold merkle_Split.f
 by_cases h : n < 2
 · rw [if_pos h]
   unfold spI sp
   rw [if_pos (by omega)]
   rfl
 · obtain ⟨n, rfl⟩ := Int.eq_ofNat_of_zero_le (show 0 ≤ n by omega)
   have hl := log_lt63 n (by omega) (by omega)
   have w1 : wrap64 ((n : Int) - 1) = ((n - 1 : Nat) : Int) := by rw [w64 (by omega) (by omega)]; omega
   have w2 : IntKind.u64.wrap ((n - 1 : Nat) : Int) = ((n - 1 : Nat) : Int) := by simp [IntKind.wrap, IntKind.bits, IntKind.signed]; omega
   have hb : bitLen (n - 1) = (n - 1).log2 + 1 := by unfold bitLen; rw [if_neg (by omega)]
   have w3 : wrap64 ((((n - 1).log2 + 1 : Nat) : Int) - 1) = (((n - 1).log2 : Nat) : Int) := by rw [w64 (by omega) (by omega)]; omega
   rw [if_neg (by omega), w1, w2]
   unfold bits_Len.f
   rw [if_pos (by omega), if_pos (by omega), Int.toNat_natCast, hb, Option.bind_some, w3, if_pos (by omega), spI_nat]
   unfold sp
   rw [if_neg (by omega)]
   congr 1
   generalize (n - 1).log2 = j at hl
   clear w1 w2 w3 hb
   revert j
   decide +kernel
def emp : ByteArray := ⟨#[]⟩
def wkR : List ByteArray → Int → Int → ByteArray → ByteArray × List ByteArray × Bool
 | [], n, i, leaf => if i < 0 ∨ n ≤ i then (emp, [], false) else if n = 1 then (leaf, [], true) else (emp, [], false)
 | last :: q, n, i, leaf => if i < 0 ∨ n ≤ i then (emp, [], false) else if n = 1 then (leaf, [], false) else
   if i < spI n then (sumB (nodeT (wkR q (spI n) i leaf).1 last), (wkR q (spI n) i leaf).2.1 ++ [nodeT (wkR q (spI n) i leaf).1 last], (wkR q (spI n) i leaf).2.2)
   else (sumB (nodeT last (wkR q (n - spI n) (i - spI n) leaf).1), (wkR q (n - spI n) (i - spI n) leaf).2.1 ++ [nodeT last (wkR q (n - spI n) (i - spI n) leaf).1], (wkR q (n - spI n) (i - spI n) leaf).2.2)
theorem wkR_size : ∀ (q : List ByteArray) (n i : Int) (leaf : ByteArray), leaf.size = 32 → (wkR q n i leaf).1.size ≤ 32 := by
 intro q
 cases q with
 | nil =>
  intro n i leaf h
  rw [wkR]
  split
  · exact Nat.zero_le _
  · split
    · exact Nat.le_of_eq h
    · exact Nat.zero_le _
 | cons last q =>
  intro n i leaf h
  rw [wkR]
  split
  · exact Nat.zero_le _
  · split
    · exact Nat.le_of_eq h
    · split
      · exact Nat.le_of_eq (size_sumB _)
      · exact Nat.le_of_eq (size_sumB _)
theorem last_of (q : List ByteArray) (last : ByteArray) : rdOf ByteArray.empty (q.reverse ++ [last]) (q.length : Int) = last := by
 unfold rdOf
 rw [Int.toNat_natCast, List.getD_eq_getElem?_getD, List.getElem?_append_right (by simp), List.length_reverse, Nat.sub_self]
 rfl
theorem front_of (q : List ByteArray) (last : ByteArray) : (q.reverse ++ [last]).take q.length = q.reverse := by
 have := List.take_left (l₁ := q.reverse) (l₂ := [last])
 rwa [List.length_reverse] at this
theorem len_of (q : List ByteArray) (last : ByteArray) : (q.reverse ++ [last]).length = q.length + 1 := by simp
theorem walk_f : ∀ (q : List ByteArray) (k : Nat) (n i : Int) (leaf : ByteArray), 2 * q.length + 2 ≤ k → q.length ≤ 1000 → n < 9223372036854775808 → leaf.size = 32 → (∀ t ∈ q, t.size ≤ 1000) → proof_walk.f k n i leaf q.reverse = some ((wkR q n i leaf).1, (wkR q n i leaf).2.2) := by
 intro q
 induction q with
 | nil =>
  intro k n i leaf hk hl hn hz hq
  obtain ⟨k, rfl⟩ : ∃ p, k = p + 2 := ⟨k - 2, by omega⟩
  rw [proof_walk.f, proof_walk.j0, proof_walk.j0, wkR]
  by_cases h0 : i < 0
  · rw [if_pos h0, if_pos rfl, if_pos (Or.inl h0)]
    rfl
  · rw [if_neg h0]
    by_cases h1 : i ≥ n
    · rw [if_pos (decide_eq_true h1), if_pos (Or.inr h1)]
      rfl
    · rw [if_neg (by simpa using h1), if_neg (show ¬ (i < 0 ∨ n ≤ i) by omega)]
      by_cases h2 : n = 1
      · rw [if_pos h2, if_pos h2]
        rfl
      · rw [if_neg h2, if_neg h2, if_pos (by simp)]
        rfl
 | cons last q ih =>
  intro k n i leaf hk hl hn hz hq
  rw [List.length_cons] at hk hl
  obtain ⟨k, rfl⟩ : ∃ p, k = p + 2 := ⟨k - 2, by omega⟩
  have hz1 := wkR_size q (spI n) i leaf hz
  have hz2 := wkR_size q (n - spI n) (i - spI n) leaf hz
  have hla := hq last List.mem_cons_self
  have hlen := len_of q last
  have hw : wrap64 (((q.reverse ++ [last]).length : Int) - 1) = (q.length : Int) := by rw [hlen]; exact wpre q.length (by omega)
  rw [List.reverse_cons, proof_walk.f, proof_walk.j0, proof_walk.j0, wkR, hw]
  by_cases h0 : i < 0
  · rw [if_pos h0, if_pos rfl, if_pos (Or.inl h0)]
    rfl
  · rw [if_neg h0]
    by_cases h1 : i ≥ n
    · rw [if_pos (decide_eq_true h1), if_pos (Or.inr h1)]
      rfl
    · rw [if_neg (by simpa using h1), if_neg (show ¬ (i < 0 ∨ n ≤ i) by omega)]
      by_cases h2 : n = 1
      · rw [if_pos h2, if_pos h2, hlen]
        have : (((q.length + 1 : Nat) : Int) == 0) = false := by rw [beq_eq_false_iff_ne]; omega
        rw [this]
      · have hb := spI_bounds n (by omega)
        rw [if_neg h2, if_neg h2, if_neg (by rw [hlen]; omega), splitI_f n hn, Option.bind_some, Int.toNat_natCast, front_of, last_of]
        by_cases h3 : i < spI n
        · rw [if_pos h3, if_pos h3, if_pos (by omega), if_pos (by rw [hlen]; omega), ih k (spI n) i leaf (by omega) (by omega) (by omega) hz (fun t ht => hq t (List.mem_cons_of_mem _ ht)), Option.bind_some, if_pos (by rw [hlen]; omega),
           node_f _ _ (by dsimp only; omega) (by omega), Option.bind_some]
        · have w1 : wrap64 (n - spI n) = n - spI n := w64 (by omega) (by omega)
          have w2 : wrap64 (i - spI n) = i - spI n := w64 (by omega) (by omega)
          rw [if_neg h3, if_neg h3, if_pos (by omega), if_pos (by rw [hlen]; omega), w1, w2, ih k (n - spI n) (i - spI n) leaf (by omega) (by omega) (by omega) hz (fun t ht => hq t (List.mem_cons_of_mem _ ht)), Option.bind_some, if_pos (by rw [hlen]; omega),
           node_f _ _ (by omega) (by dsimp only; omega), Option.bind_some]
def ledM (root : ByteArray) (p : Pq) (n i : Int) (path : List ByteArray) : Bool × List ByteArray :=
 if (wkR path.reverse n i (sumB (leafT p))).2.2 = true then ((sumB (topT n (wkR path.reverse n i (sumB (leafT p))).1)).toList == root.toList, leafT p :: ((wkR path.reverse n i (sumB (leafT p))).2.1 ++ [topT n (wkR path.reverse n i (sumB (leafT p))).1]))
 else (false, [])
theorem leads_f (root : ByteArray) (p : Pq) (n i : Int) (path : List ByteArray) (k : Nat) (hk : 2 * path.length + 2 ≤ k) (hl : path.length ≤ 1000) (hn : n < 9223372036854775808) (hp : p.f0.size ≤ 1000 ∧ p.f1.size ≤ 1000) (hq : ∀ t ∈ path, t.size ≤ 1000) : proof_leads.f k root p.f0 p.f1 n i path = some (ledM root p n i path).1 := by
 have hw := walk_f path.reverse k n i (sumB (leafT p)) (by rw [List.length_reverse]; omega) (by rw [List.length_reverse]; omega) hn (size_sumB _) (fun t ht => hq t (List.mem_reverse.mp ht))
 rw [List.reverse_reverse] at hw
 have hz := wkR_size path.reverse n i (sumB (leafT p)) (size_sumB _)
 unfold proof_leads.f ledM
 rw [leaf_f _ _ hp.1 hp.2, Option.bind_some, show (⟨p.f0, p.f1⟩ : Pq) = p from rfl, hw, Option.bind_some]
 dsimp only
 by_cases h : (wkR path.reverse n i (sumB (leafT p))).2.2 = true
 · rw [if_pos h, if_pos h, top_f _ _ (by omega), Option.bind_some]
 · rw [if_neg h, if_neg h]
end Go.Proofs.Ytipgldfbjlhpoab.Pure
namespace Go.Proofs.Ytipgldfbjlhpoab.Pure
set_option linter.unusedVariables false
set_option linter.unusedSimpArgs false
open Go.RowKit Go.Proofs.Ytipgldfbjlhpoab.P Go.Proofs.Ytipgldfbjlhpoab.Wire Go.Proofs.YtipgldfbjlhpoabW.PrintWords Go.Proofs.YtipgldfbjlhpoabW.PrintLast
theorem join_l0_is (l : List ByteArray) (hl : l.length ≤ 300) : ∀ (d k i : Nat) (out : ByteArray), i + d = l.length → d < k → out.size ≤ 100 + i * 70000 →
  wire_Join.l0 k out l (l.length : Int) (i : Int) = some (⟨#[]⟩, 4) ∨ ((∀ t ∈ l.drop i, t.size ≤ 65536) ∧ (encs (l.drop i)).size ≤ d * 70000 ∧ wire_Join.l0 k out l (l.length : Int) (i : Int) = some (out ++ encs (l.drop i), 0)) := by
 intro d
 induction d with
 | zero =>
  intro k i out hi hk ho
  obtain ⟨k, rfl⟩ : ∃ q, k = q + 1 := ⟨k - 1, by omega⟩
  have c1 : ¬ (i : Int) < (l.length : Int) := by omega
  have hd : l.drop i = [] := List.drop_eq_nil_of_le (by omega)
  refine .inr ⟨by rw [hd]; simp, by rw [hd]; exact Nat.zero_le _, ?_⟩
  rw [wire_Join.l0, if_neg c1, hd, encs, append_none]
 | succ d ih =>
  intro k i out hi hk ho
  obtain ⟨k, rfl⟩ : ∃ q, k = q + 1 := ⟨k - 1, by omega⟩
  have c1 : (i : Int) < (l.length : Int) := by omega
  have c0 : 0 ≤ (i : Int) := by omega
  have hil : i < l.length := by omega
  have hd : l.drop i = l[i] :: l.drop (i + 1) := List.drop_eq_getElem_cons hil
  have hrd : rdOf ByteArray.empty l (i : Int) = l[i] := by
   unfold rdOf
   rw [Int.toNat_natCast, List.getD_eq_getElem?_getD, List.getElem?_eq_getElem hil]
   rfl
  rw [wire_Join.l0, hrd]
  simp only [if_pos c1, if_pos c0]
  rcases lay_text_cases l[i] with h | ⟨hs, h⟩
  · refine .inl ?_
    simp only [h, Option.bind_some, if_neg (show ¬ (4 : Int) = 0 by decide)]
  · have hz := size_numB l[i].size (by omega)
    have hz2 := size_enc1 l[i]
    have h' : wire_Text.f l[i] = some (enc1 l[i], 0) := h
    have hc : out.size + (enc1 l[i]).size ≤ 9223372036854775807 := by omega
    have hnext := ih k (i + 1) (out ++ enc1 l[i]) (by omega) (by omega) (by rw [ByteArray.size_append]; omega)
    have w : wrap64 ((i : Int) + 1) = ((i + 1 : Nat) : Int) := by rw [w64 (by omega) (by omega)]; omega
    simp only [h', Option.bind_some, if_true, if_pos hc, w]
    rcases hnext with h1 | ⟨h1, h2, h3⟩
    · exact .inl h1
    · refine .inr ⟨?_, ?_, ?_⟩
      · rw [hd]
        intro t ht
        rcases List.mem_cons.mp ht with rfl | ht
        · exact hs
        · exact h1 t ht
      · rw [hd, encs, ByteArray.size_append]
        clear w
        omega
      · rw [h3, hd, encs, ByteArray.append_assoc]
theorem join_ok (l : List ByteArray) (k : Nat) (hk : 400 ≤ k) (hl : l.length ≤ 256) (ht : ∀ t ∈ l, t.size ≤ 65536) : wire_Join.f k l = some (numB l.length ++ encs l, 0) := by
 unfold wire_Join.f
 rw [if_neg (by omega), num_f _ (by omega), Option.bind_some]
 have hz := size_numB l.length (by omega)
 have key : ∀ (d k i : Nat) (out : ByteArray), i + d = l.length → d < k → out.size ≤ 100 + i * 70000 → wire_Join.l0 k out l (l.length : Int) (i : Int) = some (out ++ encs (l.drop i), 0) := by
  intro d
  induction d with
  | zero =>
   intro k i out hi hk ho
   rcases join_l0_is l (by omega) 0 k i out hi hk ho with h | ⟨_, _, h⟩
   · exfalso
     obtain ⟨k, rfl⟩ : ∃ q, k = q + 1 := ⟨k - 1, by omega⟩
     rw [wire_Join.l0, if_neg (by omega)] at h
     simp at h
   · exact h
  | succ d ih =>
   intro k i out hi hk ho
   obtain ⟨k, rfl⟩ : ∃ q, k = q + 1 := ⟨k - 1, by omega⟩
   have c1 : (i : Int) < (l.length : Int) := by omega
   have c0 : 0 ≤ (i : Int) := by omega
   have hil : i < l.length := by omega
   have hd : l.drop i = l[i] :: l.drop (i + 1) := List.drop_eq_getElem_cons hil
   have hrd : rdOf ByteArray.empty l (i : Int) = l[i] := by
    unfold rdOf
    rw [Int.toNat_natCast, List.getD_eq_getElem?_getD, List.getElem?_eq_getElem hil]
    rfl
   have hsz : l[i].size ≤ 65536 := ht _ (List.getElem_mem hil)
   have h' : wire_Text.f l[i] = some (enc1 l[i], 0) := by
    unfold wire_Text.f
    rw [if_neg (by omega), num_f _ (by omega), Option.bind_some, if_pos (by have := size_numB l[i].size (by omega); simp only; omega)]
    rfl
   have hz := size_numB l[i].size (by omega)
   have hz2 := size_enc1 l[i]
   have hc : out.size + (enc1 l[i]).size ≤ 9223372036854775807 := by omega
   have hnext := ih k (i + 1) (out ++ enc1 l[i]) (by omega) (by omega) (by rw [ByteArray.size_append]; omega)
   have w : wrap64 ((i : Int) + 1) = ((i + 1 : Nat) : Int) := by rw [w64 (by omega) (by omega)]; omega
   rw [wire_Join.l0, hrd]
   simp only [if_pos c1, if_pos c0, h', Option.bind_some, if_true, if_pos hc, w, hnext]
   rw [hd, encs, ByteArray.append_assoc]
 exact key l.length k 0 (numB l.length) (by omega) (by omega) (by omega)
end Go.Proofs.Ytipgldfbjlhpoab.Pure
namespace Go.Proofs.Ytipgldfbjlhpoab.Pure
set_option linter.unusedVariables false
set_option linter.unusedSimpArgs false
open Go.RowKit Go.Proofs.Ytipgldfbjlhpoab.P Go.Proofs.Ytipgldfbjlhpoab.Wire Go.Proofs.YtipgldfbjlhpoabW.PrintWords Go.Proofs.YtipgldfbjlhpoabW.PrintLast
def lstB (l : List ByteArray) : ByteArray := numB l.length ++ encs l
theorem m_text (t r : ByteArray) (ht : t.size ≤ 65536) (hr : r.size ≤ 1000000000000) : wire_Reader_Text.f (enc1 t ++ r) 0 = some (t, r, 0) := by
 have hz := size_numB t.size (by omega)
 have hz1 := size_enc1 t
 have hs : (enc1 t ++ r).size = (enc1 t).size + r.size := ByteArray.size_append
 unfold wire_Reader_Text.f wire_Reader_stopped.f
 simp only [Option.bind_some]
 rw [if_neg (by decide), text_enc t r ht (by omega)]
 simp only [Option.bind_some]
 rw [take_ok _ _ _ (by omega), rest_append]
 rfl
theorem m_num (n : Nat) (r : ByteArray) (hn : n ≤ 9007199254740992) : wire_Reader_Num.f (numB n ++ r) 0 = some ((n : Int), r, 0) := by
 have hs : (numB n ++ r).size = (numB n).size + r.size := ByteArray.size_append
 unfold wire_Reader_Num.f wire_Reader_stopped.f wire_number.f
 simp only [Option.bind_some]
 rw [if_neg (by decide), numberS_numB n hn r]
 simp only
 rw [take_ok _ _ _ (by omega), rest_append]
 rfl
theorem m_list0 (l : List ByteArray) (r : ByteArray) (hl : l.length ≤ 256) (ht : ∀ t ∈ l, t.size ≤ 65536) (s : ByteArray) (hs : s.size ≤ 1000000000000000) : ∀ (d k i a : Nat), i + d = l.length → d + 5 ≤ k → a ≤ s.size → s.extract a s.size = encs (l.drop i) ++ r →
  wire_Reader_List.l0 k (l.length : Int) (a : Int) 0 (l.take i) s 0 = some (l, r, 0) := by
 intro d
 induction d with
 | zero =>
  intro k i a hi hk ha he
  obtain ⟨k, rfl⟩ : ∃ q, k = q + 1 := ⟨k - 1, by omega⟩
  have h1 : l.take i = l := List.take_of_length_le (by omega)
  have h2 : l.drop i = [] := List.drop_eq_nil_of_le (by omega)
  rw [wire_Reader_List.l0, h1, if_pos rfl, if_neg (by omega), take_ok s 0 a ha, Option.bind_some, if_pos rfl, he, h2, encs, none_append]
 | succ d ih =>
  intro k i a hi hk ha he
  obtain ⟨k, rfl⟩ : ∃ q, k = q + 1 := ⟨k - 1, by omega⟩
  have hil : i < l.length := by omega
  have hd : l.drop i = l[i] :: l.drop (i + 1) := List.drop_eq_getElem_cons hil
  have htk : l.take (i + 1) = l.take i ++ [l[i]] := by rw [List.take_add_one, List.getElem?_eq_getElem hil]; rfl
  have htl : (l.take i).length = i := by rw [List.length_take]; omega
  have hsz := size_rest s a
  have he2 : s.extract a s.size = enc1 l[i] ++ (encs (l.drop (i + 1)) ++ r) := by rw [he, hd, encs, ByteArray.append_assoc]
  have hz : s.size - a = (enc1 l[i]).size + (encs (l.drop (i + 1)) ++ r).size := by rw [← hsz, he2, ByteArray.size_append]
  have htx := text_enc l[i] (encs (l.drop (i + 1)) ++ r) (ht _ (List.getElem_mem hil)) (by omega)
  have hrest : s.extract (a + (enc1 l[i]).size) s.size = encs (l.drop (i + 1)) ++ r := by
   rw [← rest_rest s a _ ha, he2, rest_append]
  have this := ih k (i + 1) (a + (enc1 l[i]).size) (by omega) (by omega) (by omega) hrest
  have c1 : ((l.take i).length : Int) < (l.length : Int) := by omega
  have c2 : (0 : Int) ≤ (a : Int) := by omega
  have c3 : (a : Int) ≤ (s.size : Int) := by omega
  have c4 : (l.take i).length < 8796093022208 := by omega
  have w : wrap64 ((a : Int) + ((enc1 l[i]).size : Int)) = ((a + (enc1 l[i]).size : Nat) : Int) := by rw [w64 (by omega) (by omega)]; omega
  rw [wire_Reader_List.l0]
  simp only [if_true, if_pos c1, if_pos c2, if_pos c3, Int.toNat_natCast, he2, htx, Option.bind_some, if_pos c4, w]
  rw [← htk]
  exact this
theorem m_list (l : List ByteArray) (r : ByteArray) (k : Nat) (hk : 400 ≤ k) (hl : l.length ≤ 256) (ht : ∀ t ∈ l, t.size ≤ 65536) (hr : (lstB l ++ r).size ≤ 1000000000000) : wire_Reader_List.f k (lstB l ++ r) 0 = some (l, r, 0) := by
 obtain ⟨k, rfl⟩ : ∃ q, k = q + 2 := ⟨k - 2, by omega⟩
 unfold lstB at *
 rw [ByteArray.append_assoc] at *
 have hz := size_numB l.length (by omega)
 have hs : (numB l.length ++ (encs l ++ r)).size = (numB l.length).size + (encs l ++ r).size := ByteArray.size_append
 have hn := numberS_numB l.length (by omega) (encs l ++ r)
 have hbig : ¬ (l.length : Int) > 256 := by omega
 have h1 := m_list0 l r hl ht (numB l.length ++ (encs l ++ r)) (by omega) l.length k 0 (numB l.length).size (by omega) (by omega) (by omega) (by rw [rest_append]; rfl)
 unfold wire_Reader_List.f wire_Reader_stopped.f wire_number.f
 simp only [Option.bind_some, bne_self_eq_false, Bool.false_eq_true, if_false, hn, if_true, wire_Reader_List.j0, wire_Reader_List.j1, decide_eq_false hbig]
 exact h1
end Go.Proofs.Ytipgldfbjlhpoab.Pure
