/- Pairs that rise, and where a key stands among them. -/
import Derived.Test.YtipgldfbjlhpoabZbPureMerkle
import Derived.Test.YtipgldfbjlhpoabZbPureOrd
import Derived.Test.YtipgldfbjlhpoabZbPR12I
import Derived.Test.YtipgldfbjlhpoabZbHBuildF
namespace Go.Proofs.Ytipgldfbjlhpoab.Pure
set_option linter.unusedVariables false
set_option linter.unusedSimpArgs false
open Go.RowKit Go.Proofs.Ytipgldfbjlhpoab.P Go.Proofs.Ytipgldfbjlhpoab.Wire Go.Proofs.Ytipgldfbjlhpoab.Sha Go.Proofs.YtipgldfbjlhpoabW.PrintWords Go.Proofs.YtipgldfbjlhpoabW.PrintLast
abbrev Pq := S86
def keyQ (p : Pq) : List UInt8 := p.f0.toList
theorem wsuc (i : Nat) (h : i < 1000000) : wrap64 ((i : Int) + 1) = ((i + 1 : Nat) : Int) := by rw [w64 (by omega) (by omega)]; omega
theorem wpre (i : Nat) (h : i < 1000000) : wrap64 (((i + 1 : Nat) : Int) - 1) = (i : Int) := by rw [w64 (by omega) (by omega)]; omega
def UpTo (l : List Pq) (n : Nat) : Prop := ∀ j (h : j + 1 < l.length), j < n → Op.bytesLess (keyQ l[j]) (keyQ l[j + 1]) = true
theorem up_to (l : List Pq) : Up keyQ l ↔ UpTo l l.length := ⟨fun h j hj _ => of_up keyQ l h j hj, fun h => up_of keyQ l (fun j hj => h j hj (by omega))⟩
theorem upTo_succ {l : List Pq} {i : Nat} (h : UpTo l i) (hi : i + 1 < l.length) (hl : Op.bytesLess (keyQ l[i]) (keyQ l[i + 1]) = true) : UpTo l (i + 1) := by
 intro j hj hlt
 by_cases e : j = i
 · subst e; exact hl
 · exact h j hj (by omega)
theorem prises_l0 (l : List Pq) (hl : l.length ≤ 1000) : ∀ (d k i : Nat), i + d + 1 = l.length → d < k → UpTo l i → ∃ b, proof_rises.l0 k l ((l.length : Int) - 1) (i : Int) = some b ∧ (b = true ↔ Up keyQ l) := by
 intro d
 induction d with
 | zero =>
  intro k i hi hk hu
  obtain ⟨k, rfl⟩ : ∃ q, k = q + 1 := ⟨k - 1, by omega⟩
  rw [proof_rises.l0, if_neg (by omega)]
  exact ⟨true, rfl, fun _ => (up_to l).mpr (fun j hj _ => hu j hj (by omega)), fun _ => rfl⟩
 | succ d ih =>
  intro k i hi hk hu
  obtain ⟨k, rfl⟩ : ∃ q, k = q + 1 := ⟨k - 1, by omega⟩
  rw [proof_rises.l0, if_pos (by omega), if_pos (by omega), if_pos (by omega), wsuc i (by omega), if_pos (by omega), if_pos (by omega), rd_mem i (by omega), rd_mem (i + 1) (by omega)]
  by_cases h : Op.bytesLess (keyQ (l[i]'(by omega))) (keyQ (l[i + 1]'(by omega))) = true
  · rw [if_pos (show Op.bytesLess ((l[i]'(by omega)).f0.toList) ((l[i + 1]'(by omega)).f0.toList) = true from h)]
    exact ih k (i + 1) (by omega) (by omega) (upTo_succ hu (by omega) h)
  · rw [if_neg (show ¬ Op.bytesLess ((l[i]'(by omega)).f0.toList) ((l[i + 1]'(by omega)).f0.toList) = true from h)]
    exact ⟨false, rfl, fun h => (nomatch h), fun hu => absurd (of_up keyQ l hu i (by omega)) h⟩
theorem prises (l : List Pq) (k : Nat) (hl : l.length ≤ 1000) (hk : l.length < k) : ∃ b, proof_rises.f k l = some b ∧ (b = true ↔ Up keyQ l) := by
 unfold proof_rises.f
 cases l with
 | nil =>
  obtain ⟨k, rfl⟩ : ∃ q, k = q + 1 := ⟨k - 1, by omega⟩
  exact ⟨true, by rw [proof_rises.l0, if_neg (show ¬ (0 : Int) < wrap64 ((([] : List Pq).length : Int) - 1) by decide +kernel)], fun _ => trivial, fun _ => rfl⟩
 | cons x l =>
  rw [show wrap64 (((x :: l).length : Int) - 1) = ((x :: l).length : Int) - 1 from w64 (by simp) (by simp at hl ⊢; omega)]
  exact prises_l0 (x :: l) hl l.length k 0 (by simp) (by simp at hk; omega) (fun j _ h => absurd h (Nat.not_lt_zero _))
theorem rrises_l0 (l : List Pq) (hl : l.length ≤ 1000) : ∀ (d k i : Nat), i + d + 1 = l.length → d < k → UpTo l i → ∃ b, footbridgeref12_Rises.l0 k l ((i + 1 : Nat) : Int) = some b ∧ (b = true ↔ Up keyQ l) := by
 intro d
 induction d with
 | zero =>
  intro k i hi hk hu
  obtain ⟨k, rfl⟩ : ∃ q, k = q + 1 := ⟨k - 1, by omega⟩
  rw [footbridgeref12_Rises.l0, if_neg (by omega)]
  exact ⟨true, rfl, fun _ => (up_to l).mpr (fun j hj _ => hu j hj (by omega)), fun _ => rfl⟩
 | succ d ih =>
  intro k i hi hk hu
  obtain ⟨k, rfl⟩ : ∃ q, k = q + 1 := ⟨k - 1, by omega⟩
  rw [footbridgeref12_Rises.l0, if_pos (by omega), wpre i (by omega), if_pos (by omega), if_pos (by omega), if_pos (by omega), rd_mem i (by omega), rd_mem (i + 1) (by omega)]
  by_cases h : Op.bytesLess (keyQ (l[i]'(by omega))) (keyQ (l[i + 1]'(by omega))) = true
  · rw [if_pos (show Op.bytesLess ((l[i]'(by omega)).f0.toList) ((l[i + 1]'(by omega)).f0.toList) = true from h), wsuc (i + 1) (by omega)]
    exact ih k (i + 1) (by omega) (by omega) (upTo_succ hu (by omega) h)
  · rw [if_neg (show ¬ Op.bytesLess ((l[i]'(by omega)).f0.toList) ((l[i + 1]'(by omega)).f0.toList) = true from h)]
    exact ⟨false, rfl, fun h => (nomatch h), fun hu => absurd (of_up keyQ l hu i (by omega)) h⟩
theorem rrises (l : List Pq) (k : Nat) (hl : l.length ≤ 1000) (hk : l.length < k) : ∃ b, footbridgeref12_Rises.f k l = some b ∧ (b = true ↔ Up keyQ l) := by
 unfold footbridgeref12_Rises.f
 cases l with
 | nil =>
  obtain ⟨k, rfl⟩ : ∃ q, k = q + 1 := ⟨k - 1, by omega⟩
  exact ⟨true, by rw [footbridgeref12_Rises.l0, if_neg (show ¬ (1 : Int) < (([] : List Pq).length : Int) by decide)], fun _ => trivial, fun _ => rfl⟩
 | cons x l => exact rrises_l0 (x :: l) hl l.length k 0 (by simp) (by simp at hk; omega) (fun j _ h => absurd h (Nat.not_lt_zero _))
theorem up_lt : ∀ (l : List Pq), Up keyQ l → ∀ i j (hi : i < l.length) (hj : j < l.length), i < j → Op.bytesLess (keyQ l[i]) (keyQ l[j]) = true := by
 intro l
 induction l with
 | nil => intro _ i j hi; simp at hi
 | cons x l ih =>
  intro hu i j hi hj hij
  obtain ⟨j, rfl⟩ : ∃ q, j = q + 1 := ⟨j - 1, by omega⟩
  cases i with
  | zero => exact hu.1 _ (List.getElem_mem (by simpa using hj))
  | succ i => exact ih hu.2 i j (by simpa using hi) (by simpa using hj) (by omega)
theorem cnt_less (key : ByteArray) : ∀ (l : List Pq) (i : Nat) (h : i < l.length), i < cntL key l → Op.bytesLess (keyQ l[i]) key.toList = true := by
 intro l
 induction l with
 | nil => intro i h; simp at h
 | cons x l ih =>
  intro i h hc
  rw [cntL] at hc
  split at hc
  · rename_i hx
    cases i with
    | zero => exact (cmpK_neg _ _).mp hx
    | succ i => exact ih i (by simpa using h) (by omega)
  · omega
theorem cnt_at (key : ByteArray) : ∀ (l : List Pq) (i : Nat) (h : i < l.length), i = cntL key l → Op.bytesLess (keyQ l[i]) key.toList = false := by
 intro l
 induction l with
 | nil => intro i h; simp at h
 | cons x l ih =>
  intro i h hc
  rw [cntL] at hc
  split at hc
  · rename_i hx
    obtain ⟨i, rfl⟩ : ∃ q, i = q + 1 := ⟨i - 1, by omega⟩
    exact ih i (by simpa using h) (by omega)
  · rename_i hx
    subst hc
    rw [Bool.eq_false_iff]
    exact fun hh => hx ((cmpK_neg _ _).mpr hh)
theorem cnt_more (key : ByteArray) (l : List Pq) (hu : Up keyQ l) (i : Nat) (h : i < l.length) (hc : cntL key l < i) : Op.bytesLess key.toList (keyQ l[i]) = true := by
 have h0 := cnt_at key l (cntL key l) (by omega) rfl
 have h1 := up_lt l hu (cntL key l) i (by omega) h hc
 cases h2 : Op.bytesLess key.toList (keyQ (l[cntL key l]'(by omega))) with
 | true => exact less_trans _ _ _ h2 h1
 | false => rw [← less_tri _ _ h0 h2]; exact h1
theorem cnt_split (key : ByteArray) (l : List Pq) (hu : Up keyQ l) : SplitAt l key := by
 intro i hi
 rw [rd_mem i hi, cmpK_neg]
 constructor
 · intro h
   by_cases hc : i < cntL key l
   · exact hc
   · exfalso
     by_cases he : i = cntL key l
     · have := cnt_at key l i hi he
       rw [keyQ, h] at this
       cases this
     · have := less_asymm (cnt_more key l hu i hi (by omega))
       rw [keyQ, h] at this
       cases this
 · exact cnt_less key l i hi
end Go.Proofs.Ytipgldfbjlhpoab.Pure
