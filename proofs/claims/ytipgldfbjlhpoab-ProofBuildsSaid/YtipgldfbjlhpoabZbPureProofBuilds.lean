/- The plain side of ProofBuilds. -/
import Derived.Test.YtipgldfbjlhpoabZbPurePrf2
import Derived.Test.YtipgldfbjlhpoabZbPurePrf3
import Derived.Test.YtipgldfbjlhpoabZbHLBuilds
namespace Go.Proofs.Ytipgldfbjlhpoab.Pure
set_option linter.unusedVariables false
set_option linter.unusedSimpArgs false
open Go.RowKit Go.Proofs.Ytipgldfbjlhpoab.P Go.Proofs.Ytipgldfbjlhpoab.Wire Go.Proofs.Ytipgldfbjlhpoab.Sha Go.Proofs.YtipgldfbjlhpoabW.PrintWords Go.Proofs.YtipgldfbjlhpoabW.PrintLast
def pathsP (l : List Pq) (lo n : Nat) : List (List ByteArray) := (List.range' lo n).map (pathP 20 l)
theorem paths_f (l : List Pq) (k : Nat) (hl : l.length ≤ 20) (hs : short 200 l) (hk : 20 < k) : ∀ (n lo : Nat), lo + n ≤ 1000 → pathsF k (lvs l) lo n = some (pathsP l lo n) := by
 intro n
 induction n with
 | zero => intro lo _; rfl
 | succ n ih =>
  intro lo h
  rw [pathsF, ppath_f 20 l k lo hl (by omega) (by omega) (by omega) hs (by omega), Option.bind_some, ih (lo + 1) (by omega), Option.bind_some]
  rfl
def isAt (l : List Pq) (key : ByteArray) : Bool := decide (cntL key l < l.length) && decide (cmpK (rd_T86 l (cntL key l : Int)).f0 key = 0)
def hiP (l : List Pq) (key : ByteArray) : Nat := min (cntL key l + 1) l.length
def loP (l : List Pq) (key : ByteArray) : Nat := cntL key l - 1
def nearP (l : List Pq) (key : ByteArray) : List Pq := (l.take (hiP l key)).drop (loP l key)
def bldV (l : List Pq) (key : ByteArray) : Int × Int × Bool × List Pq × List (List ByteArray) :=
 if isAt l key = true then ((l.length : Int), (cntL key l : Int), true, [], [pathP 20 l (cntL key l)]) else ((l.length : Int), (cntL key l : Int), false, nearP l key, pathsP l (loP l key) (hiP l key - loP l key))
theorem pbuild_up (l : List Pq) (key : ByteArray) (k : Nat) (hl : l.length ≤ 20) (hs : short 200 l) (hk : 100 ≤ k) (hu : Up keyQ l) : proof_Build.f k l key = some (bldV l key) := by
 have hc := cntL_le key l
 obtain ⟨b, hb, hbu⟩ := prises l k (by omega) (by omega)
 have h1 : hiP l key = min (cntL key l + 1) l.length := rfl
 have h2 : loP l key = cntL key l - 1 := rfl
 unfold proof_Build.f bldV
 rw [hb, Option.bind_some, if_pos (hbu.mpr hu), if_pos ⟨by omega, cnt_split key l hu⟩, leaves_f l hs, Option.bind_some, ← h1, ← h2]
 by_cases h : isAt l key = true
 · rw [if_pos h, if_pos (show (decide (cntL key l < l.length) && decide (cmpK (rd_T86 l (cntL key l : Int)).f0 key = 0)) = true from h), ppath_f 20 l k _ hl (by omega) (by omega) (by omega) hs (by omega), Option.bind_some]
 · rw [if_neg h, if_neg (show ¬ (decide (cntL key l < l.length) && decide (cmpK (rd_T86 l (cntL key l : Int)).f0 key = 0)) = true from h), paths_f l k hl hs (by omega) _ _ (by omega), Option.bind_some]
   rfl
theorem pbuild_no (l : List Pq) (key : ByteArray) (k : Nat) (hl : l.length ≤ 20) (hk : 100 ≤ k) (hu : ¬ Up keyQ l) : proof_Build.f k l key = some (0, 0, false, [], []) := by
 obtain ⟨b, hb, hbu⟩ := prises l k (by omega) (by omega)
 unfold proof_Build.f
 rw [hb, Option.bind_some, if_neg (fun h => hu (hbu.mp h))]
theorem rb_l0 (l : List Pq) (key : ByteArray) (hl : l.length ≤ 20) : ∀ (d k i : Nat), i + d = cntL key l → ∃ q, q = k ∧ footbridgeref12_Build.l0 (k + d + 1) l key (i : Int) = footbridgeref12_Build.j1 q l key (cntL key l : Int) := by
 have hc := cntL_le key l
 intro d
 induction d with
 | zero =>
  intro k i hi
  obtain rfl : i = cntL key l := by omega
  refine ⟨k, rfl, ?_⟩
  rw [Nat.add_zero, footbridgeref12_Build.l0]
  by_cases h : cntL key l < l.length
  · rw [if_pos (by omega), if_pos (by omega), rd_mem _ h, if_neg (show ¬ Op.bytesLess ((l[cntL key l]'h).f0.toList) key.toList = true from fun hh => by
     have := cnt_at key l _ h rfl
     rw [keyQ, hh] at this
     cases this)]
  · rw [if_neg (by omega)]
 | succ d ih =>
  intro k i hi
  have hil : i < l.length := by omega
  obtain ⟨q, hq, h⟩ := ih k (i + 1) (by omega)
  refine ⟨q, hq, ?_⟩
  rw [← h, footbridgeref12_Build.l0, if_pos (by omega), if_pos (by omega), rd_mem i hil, if_pos (show Op.bytesLess ((l[i]'hil).f0.toList) key.toList = true from cnt_less key l i hil (by omega)), wsuc i (by omega)]
  rfl
theorem near_step (l : List Pq) (lo i : Nat) (h : lo ≤ i) (hi : i < l.length) : (l.take i).drop lo ++ [l[i]] = (l.take (i + 1)).drop lo := by
 rw [List.take_add_one, List.getElem?_eq_getElem hi, List.drop_append_of_le_length (by rw [List.length_take]; omega)]
 rfl
theorem paths_step (l : List Pq) (lo i : Nat) (h : lo ≤ i) : pathsP l lo (i - lo) ++ [pathP 20 l i] = pathsP l lo (i + 1 - lo) := by
 unfold pathsP
 rw [show i + 1 - lo = (i - lo) + 1 by omega, List.range'_1_concat, List.map_append, show lo + (i - lo) = i by omega]
 rfl
theorem rb_l1 (l : List Pq) (key : ByteArray) (hl : l.length ≤ 20) (hs : short 200 l) : ∀ (d k i : Nat), i + d = hiP l key → loP l key ≤ i → d + 120 ≤ k →
  footbridgeref12_Build.l1 k l (cntL key l : Int) (i : Int) (l.length : Int) (cntL key l : Int) false ((l.take i).drop (loP l key)) (pathsP l (loP l key) (i - loP l key)) = some ((l.length : Int), (cntL key l : Int), false, nearP l key, pathsP l (loP l key) (hiP l key - loP l key)) := by
 have hc := cntL_le key l
 have hh : hiP l key = min (cntL key l + 1) l.length := rfl
 intro d
 induction d with
 | zero =>
  intro k i hi hlo hk
  obtain ⟨k, rfl⟩ : ∃ q, k = q + 1 := ⟨k - 1, by omega⟩
  obtain rfl : i = hiP l key := by omega
  rw [footbridgeref12_Build.l1]
  by_cases h : ((hiP l key : Nat) : Int) ≤ (cntL key l : Int)
  · rw [if_pos h, if_neg (by omega)]
    rfl
  · rw [if_neg h]
    rfl
 | succ d ih =>
  intro k i hi hlo hk
  obtain ⟨k, rfl⟩ : ∃ q, k = q + 1 := ⟨k - 1, by omega⟩
  have hil : i < l.length := by omega
  have hn : ((l.take i).drop (loP l key)).length ≤ 20 := by rw [List.length_drop, List.length_take]; omega
  have hp : (pathsP l (loP l key) (i - loP l key)).length ≤ 20 := by unfold pathsP; rw [List.length_map, List.length_range']; omega
  rw [footbridgeref12_Build.l1, if_pos (by omega), if_pos (by omega), if_pos (by omega), if_pos (by omega), rpath_f 20 l k i hl (by omega) (by omega) (by omega) hs (by omega), Option.bind_some, if_pos (by omega), wsuc i (by omega), rd_mem i hil]
  rw [show (⟨(l[i]).f0, (l[i]).f1⟩ : Pq) = l[i] from rfl, near_step l _ i hlo hil, paths_step l _ i hlo]
  exact ih k (i + 1) (by omega) (by omega) (by omega)
theorem rbuild_up (l : List Pq) (key : ByteArray) (k : Nat) (hl : l.length ≤ 20) (hs : short 200 l) (hk : 200 ≤ k) (hu : Up keyQ l) : footbridgeref12_Build.f k l key = some (bldV l key) := by
 have hc := cntL_le key l
 obtain ⟨b, hb, hbu⟩ := rrises l k (by omega) (by omega)
 obtain ⟨q, hq, hl0⟩ := rb_l0 l key hl (cntL key l) (k - cntL key l - 1) 0 (by omega)
 rw [show k - cntL key l - 1 + cntL key l + 1 = k by omega] at hl0
 obtain ⟨q, rfl⟩ : ∃ p, q = p + 2 := ⟨q - 2, by omega⟩
 unfold footbridgeref12_Build.f
 rw [hb, Option.bind_some, if_pos (hbu.mpr hu), show footbridgeref12_Build.l0 k l key 0 = _ from hl0, footbridgeref12_Build.j1]
 have hj2 : ∀ x : Bool, x = isAt l key → footbridgeref12_Build.j2 (q + 1) l (cntL key l : Int) x (l.length : Int) (cntL key l : Int) false = some (bldV l key) := by
  rintro x rfl
  unfold bldV
  rw [footbridgeref12_Build.j2]
  by_cases h : isAt l key = true
  · rw [if_pos h, if_pos h, rpath_f 20 l q _ hl (by omega) (by omega) (by omega) hs (by omega), Option.bind_some]
  · rw [if_neg h, if_neg h]
    have hm : mx 0 (wrap64 ((cntL key l : Int) - 1)) = ((loP l key : Nat) : Int) := by
     have hlo : loP l key = cntL key l - 1 := rfl
     have hw : wrap64 ((cntL key l : Int) - 1) = (cntL key l : Int) - 1 := by unfold wrap64; omega
     rw [hw]
     unfold mx
     omega
    have h0 := rb_l1 l key hl hs (hiP l key - loP l key) q (loP l key) (by have : hiP l key = min (cntL key l + 1) l.length := rfl; have hlo : loP l key = cntL key l - 1 := rfl; omega) (Nat.le_refl _) (by have : hiP l key = min (cntL key l + 1) l.length := rfl; omega)
    rw [Nat.sub_self, show (l.take (loP l key)).drop (loP l key) = [] from List.drop_eq_nil_of_le (by rw [List.length_take]; omega)] at h0
    rw [hm]
    exact h0
 by_cases h : cntL key l < l.length
 · rw [if_pos (by omega), if_pos (by omega)]
   refine hj2 _ ?_
   unfold isAt
   rw [rd_mem _ h]
   rw [Bool.eq_iff_iff]
   simp only [beq_iff_eq, Bool.and_eq_true, decide_eq_true_eq, cmpK_zero]
   exact ⟨fun e => ⟨h, e⟩, fun e => e.2⟩
 · rw [if_neg (by omega)]
   refine hj2 _ ?_
   unfold isAt
   rw [decide_eq_false h, Bool.false_and]
theorem rbuild_no (l : List Pq) (key : ByteArray) (k : Nat) (hl : l.length ≤ 20) (hk : 100 ≤ k) (hu : ¬ Up keyQ l) : footbridgeref12_Build.f k l key = some (0, 0, false, [], []) := by
 obtain ⟨b, hb, hbu⟩ := rrises l k (by omega) (by omega)
 unfold footbridgeref12_Build.f
 rw [hb, Option.bind_some, if_neg (fun h => hu (hbu.mp h))]
theorem bld_small (l : List Pq) (key : ByteArray) (hl : l.length ≤ 20) : (bldV l key).2.2.2.1.length ≤ 1000 ∧ (bldV l key).2.2.2.2.length ≤ 1000 ∧ ∀ p ∈ (bldV l key).2.2.2.2, p.length ≤ 1000 := by
 unfold bldV
 split
 · refine ⟨by simp, by simp, fun p hp => ?_⟩
   rw [List.mem_singleton.mp hp]
   exact Nat.le_trans (pathP_len 20 l _) (by omega)
 · refine ⟨?_, ?_, fun p hp => ?_⟩
   · show (nearP l key).length ≤ 1000
     unfold nearP
     rw [List.length_drop, List.length_take]
     omega
   · show (pathsP l _ _).length ≤ 1000
     unfold pathsP
     rw [List.length_map, List.length_range']
     have : hiP l key = min (cntL key l + 1) l.length := rfl
     omega
   · obtain ⟨i, _, rfl⟩ := List.mem_map.mp (show p ∈ (List.range' _ _).map (pathP 20 l) from hp)
     exact Nat.le_trans (pathP_len 20 l _) (by omega)
theorem ProofBuilds (l : List Pq) (key : ByteArray) : ∃ k, footbridgelaw12_ProofBuilds.f k l key = some true := by
 refine ⟨3000, ?_⟩
 obtain ⟨k, hk⟩ : ∃ k : Nat, k = 3000 := ⟨_, rfl⟩
 rw [← hk]
 obtain ⟨b, hb, hbs⟩ := few12_f l 20 (by omega) k (by omega)
 unfold footbridgelaw12_ProofBuilds.f
 rw [show footbridgelaw12_few.f k l 20 = some b from hb, Option.bind_some]
 by_cases h : b = true ∧ ¬ (key.size : Int) > 100
 · obtain ⟨h1, h2⟩ := hbs h.1
   have hs : short 200 l := fun p hp => by have := h2 p hp; omega
   rw [if_pos h]
   by_cases hu : Up keyQ l
   · have hb := bld_small l key h1
     rw [pbuild_up l key k h1 hs (by omega) hu, Option.bind_some, rbuild_up l key k h1 hs (by omega) hu, Option.bind_some]
     exact same12 _ _ _ _ _ k hb.1 hb.2.1 hb.2.2 (by omega)
   · rw [pbuild_no l key k h1 (by omega) hu, Option.bind_some, rbuild_no l key k h1 (by omega) hu, Option.bind_some]
     exact same12 _ _ _ _ _ k (by simp) (by simp) (fun p hp => by cases hp) (by omega)
 · rw [if_neg h]
end Go.Proofs.Ytipgldfbjlhpoab.Pure
