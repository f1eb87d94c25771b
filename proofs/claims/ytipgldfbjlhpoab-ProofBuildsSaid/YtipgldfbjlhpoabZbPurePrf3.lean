/- The bounds of layer 12; proofs that are the same. -/
import Derived.Test.YtipgldfbjlhpoabZbPurePrf1
import Derived.Test.YtipgldfbjlhpoabZbPureWireL
import Derived.Test.YtipgldfbjlhpoabZbPL12
import Derived.Test.YtipgldfbjlhpoabZbPR12S
namespace Go.Proofs.Ytipgldfbjlhpoab.Pure
set_option linter.unusedVariables false
set_option linter.unusedSimpArgs false
open Go.RowKit Go.Proofs.Ytipgldfbjlhpoab.P Go.Proofs.Ytipgldfbjlhpoab.Wire Go.Proofs.Ytipgldfbjlhpoab.Sha Go.Proofs.YtipgldfbjlhpoabW.PrintWords Go.Proofs.YtipgldfbjlhpoabW.PrintLast
theorem few12_l0 (l : List S86) (hl : l.length ≤ 1000) : ∀ (d k i : Nat), i + d = l.length → d < k →
  ∃ b, footbridgelaw12_few.l0 k l (i : Int) = some b ∧ (b = true → ∀ j (hj : j < l.length), i ≤ j → (l[j]).f0.size ≤ 100 ∧ (l[j]).f1.size ≤ 100) := by
 intro d
 induction d with
 | zero =>
  intro k i hi hk
  obtain ⟨k, rfl⟩ : ∃ q, k = q + 1 := ⟨k - 1, by omega⟩
  rw [footbridgelaw12_few.l0, if_neg (by omega)]
  exact ⟨true, rfl, fun _ j hj hij => by omega⟩
 | succ d ih =>
  intro k i hi hk
  obtain ⟨k, rfl⟩ : ∃ q, k = q + 1 := ⟨k - 1, by omega⟩
  have hil : i < l.length := by omega
  rw [footbridgelaw12_few.l0, if_pos (by omega), if_pos (by omega), rd_mem i hil]
  by_cases h0 : ((l[i]).f0.size : Int) > 100
  · rw [if_pos h0]
    exact ⟨false, rfl, fun h => by cases h⟩
  · rw [if_neg h0]
    by_cases h1 : ((l[i]).f1.size : Int) > 100
    · rw [if_pos h1]
      exact ⟨false, rfl, fun h => by cases h⟩
    · rw [if_neg h1]
      have w : wrap64 ((i : Int) + 1) = ((i + 1 : Nat) : Int) := by rw [w64 (by omega) (by omega)]; omega
      obtain ⟨b, hb, hs⟩ := ih k (i + 1) (by omega) (by omega)
      rw [w, hb]
      refine ⟨b, rfl, fun hbt j hj hij => ?_⟩
      by_cases e : i = j
      · subst e; omega
      · exact hs hbt j hj (by omega)
theorem few12_f (l : List S86) (m : Nat) (hm : m ≤ 1000) (k : Nat) (hk : m < k) : ∃ b, footbridgelaw12_few.f k l (m : Int) = some b ∧ (b = true → l.length ≤ m ∧ short 100 l) := by
 unfold footbridgelaw12_few.f
 by_cases h : (l.length : Int) > (m : Int)
 · rw [if_pos h]
   exact ⟨false, rfl, fun h => by cases h⟩
 · rw [if_neg h]
   obtain ⟨b, hb, hs⟩ := few12_l0 l (by omega) l.length k 0 (by omega) (by omega)
   rw [show ((0 : Nat) : Int) = 0 from rfl] at hb
   rw [hb]
   refine ⟨b, rfl, fun hbt => ⟨by omega, fun p hp => ?_⟩⟩
   obtain ⟨j, hj, rfl⟩ := List.mem_iff_getElem.mp hp
   exact hs hbt j hj (Nat.zero_le _)
theorem same09_l0 (l : List Pq) (hl : l.length ≤ 1000) : ∀ (d k i : Nat), i + d = l.length → d < k → footbridgeref09_Same.l0 k l l (i : Int) = some true := by
 intro d
 induction d with
 | zero =>
  intro k i hi hk
  obtain ⟨k, rfl⟩ : ∃ q, k = q + 1 := ⟨k - 1, by omega⟩
  rw [footbridgeref09_Same.l0, if_neg (by omega)]
 | succ d ih =>
  intro k i hi hk
  obtain ⟨k, rfl⟩ : ∃ q, k = q + 1 := ⟨k - 1, by omega⟩
  rw [footbridgeref09_Same.l0, if_pos (by omega), if_pos (by omega), if_pos (by omega), if_neg (by simp), wsuc i (by omega)]
  exact ih k (i + 1) (by omega) (by omega)
theorem same09 (l : List Pq) (k : Nat) (hl : l.length ≤ 1000) (hk : l.length < k) : footbridgeref09_Same.f k l l = some true := by
 unfold footbridgeref09_Same.f
 rw [if_pos rfl]
 exact same09_l0 l hl l.length k 0 (by omega) hk
theorem rdL {l : List (List ByteArray)} (i : Nat) (h : i < l.length) : rd_L10 l (i : Int) = l[i] := by
 unfold rd_L10
 rw [Int.toNat_natCast, List.getD_eq_getElem?_getD, List.getElem?_eq_getElem h]
 rfl
theorem same12_l0 (n a : Int) (th : Bool) (near : List Pq) (ps : List (List ByteArray)) (hp : ps.length ≤ 1000) (hq : ∀ p ∈ ps, p.length ≤ 1000) : ∀ (d k i : Nat), i + d = ps.length → d + 1010 < k → footbridgeref12_Same.l0 k (i : Int) n a th near ps n a th near ps = some true := by
 intro d
 induction d with
 | zero =>
  intro k i hi hk
  obtain ⟨k, rfl⟩ : ∃ q, k = q + 1 := ⟨k - 1, by omega⟩
  rw [footbridgeref12_Same.l0, if_neg (by omega)]
 | succ d ih =>
  intro k i hi hk
  obtain ⟨k, rfl⟩ : ∃ q, k = q + 1 := ⟨k - 1, by omega⟩
  have hil : i < ps.length := by omega
  have := hq ps[i] (List.getElem_mem hil)
  rw [footbridgeref12_Same.l0, if_pos (by omega), if_pos (by omega), if_pos (by omega), rdL i hil, texts_f _ k (by omega) (by omega), Option.bind_some, if_pos rfl, wsuc i (by omega)]
  exact ih k (i + 1) (by omega) (by omega)
theorem same12 (n a : Int) (th : Bool) (near : List Pq) (ps : List (List ByteArray)) (k : Nat) (hn : near.length ≤ 1000) (hp : ps.length ≤ 1000) (hq : ∀ p ∈ ps, p.length ≤ 1000) (hk : 2100 ≤ k) : footbridgeref12_Same.f k n a th near ps n a th near ps = some true := by
 obtain ⟨k, rfl⟩ : ∃ q, k = q + 1 := ⟨k - 1, by omega⟩
 unfold footbridgeref12_Same.f
 rw [if_pos rfl, if_pos rfl, if_neg (by simp), same09 near (k + 1) hn (by omega), Option.bind_some, if_pos rfl, footbridgeref12_Same.j0, if_neg (by simp)]
 exact same12_l0 n a th near ps hp hq ps.length k 0 (by omega) (by omega)
end Go.Proofs.Ytipgldfbjlhpoab.Pure
