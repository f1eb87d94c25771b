/- proof.Build as a function on lists, and its contract. -/
import Derived.Test.YtipgldfbjlhpoabZcHBuild
import Derived.Test.YtipgldfbjlhpoabZcHCmp
import Derived.Test.YtipgldfbjlhpoabZcP0
import Derived.Test.YtipgldfbjlhpoabZcPRMerkle
import Derived.Test.YtipgldfbjlhpoabZcHBits
namespace Go.Proofs.Ytipgldfbjlhpoab.P
set_option linter.unusedVariables false
set_option linter.unusedSimpArgs false
open Go.RowKit Go.Proofs.YtipgldfbjlhpoabW.PrintWords Go.Proofs.YtipgldfbjlhpoabW.PrintLast Go.Proofs.YtipgldfbjlhpoabW.PrintMore
def leavesF : List S86 → Option (List ByteArray)
 | [] => some []
 | x :: l => (merkle_Leaf.f x.f0 x.f1).bind fun y => (leavesF l).bind fun ys => some (y :: ys)
theorem leavesF_ok : ∀ (l : List S86) (lv : List ByteArray), leavesF l = some lv → LeavesOk l lv := by
 intro l
 induction l with
 | nil =>
  intro lv h
  obtain rfl := Option.some.inj h
  exact ⟨rfl, fun i x hx => by simp at hx⟩
 | cons x l ih =>
  intro lv h
  rw [leavesF] at h
  obtain ⟨y, hy, h⟩ := Option.bind_eq_some_iff.mp h
  obtain ⟨ys, hys, h⟩ := Option.bind_eq_some_iff.mp h
  obtain rfl := Option.some.inj h
  obtain ⟨h1, h2⟩ := ih ys hys
  refine ⟨by simp [h1], fun i z hz => ?_⟩
  cases i with
  | zero => obtain rfl := Option.some.inj hz; exact ⟨y, rfl, hy⟩
  | succ i => exact h2 i z hz
def pathsF (k : Nat) (lv : List ByteArray) : Nat → Nat → Option (List (List ByteArray))
 | _, 0 => some []
 | lo, n + 1 => (proof_path.f k lv (lo : Int)).bind fun p => (pathsF k lv (lo + 1) n).bind fun ps => some (p :: ps)
theorem pathsF_ok (k : Nat) (lv : List ByteArray) : ∀ (n lo : Nat) (ps : List (List ByteArray)), pathsF k lv lo n = some ps → ps.length = n ∧ PathsOk k lv lo ps := by
 intro n
 induction n with
 | zero =>
  intro lo ps h
  obtain rfl := Option.some.inj h
  exact ⟨rfl, fun j p hp => by simp at hp⟩
 | succ n ih =>
  intro lo ps h
  rw [pathsF] at h
  obtain ⟨p, hp, h⟩ := Option.bind_eq_some_iff.mp h
  obtain ⟨qs, hqs, h⟩ := Option.bind_eq_some_iff.mp h
  obtain rfl := Option.some.inj h
  obtain ⟨h1, h2⟩ := ih (lo + 1) qs hqs
  refine ⟨by simp [h1], fun j q hq => ?_⟩
  cases j with
  | zero => obtain rfl := Option.some.inj hq; exact hp
  | succ j => rw [show lo + (j + 1) = lo + 1 + j by omega]; exact h2 j q hq
def cntL (key : ByteArray) : List S86 → Nat
 | [] => 0
 | x :: l => if cmpK x.f0 key < 0 then cntL key l + 1 else 0
theorem cntL_le (key : ByteArray) : ∀ l, cntL key l ≤ l.length := by
 intro l
 induction l with
 | nil => exact Nat.le_refl _
 | cons x l ih => rw [cntL]; split <;> simp <;> omega
def SplitAt (l : List S86) (key : ByteArray) : Prop := ∀ i, i < l.length → (cmpK (rd_T86 l (i : Int)).f0 key < 0 ↔ i < cntL key l)
open Classical in
noncomputable def proof_Build.f (k : Nat) (l : List S86) (key : ByteArray) : Option (Int × Int × Bool × List S86 × List (List ByteArray)) :=
 (proof_rises.f k l).bind fun b => if b = true then (if l.length ≤ 1000000 ∧ SplitAt l key then (leavesF l).bind fun lv =>
  (if (decide (cntL key l < l.length) && decide (cmpK (rd_T86 l (cntL key l : Int)).f0 key = 0)) = true then (proof_path.f k lv (cntL key l : Int)).bind fun p => some ((l.length : Int), (cntL key l : Int), true, [], [p])
  else (pathsF k lv (cntL key l - 1) (min (cntL key l + 1) l.length - (cntL key l - 1))).bind fun ps => some ((l.length : Int), (cntL key l : Int), false, (l.take (min (cntL key l + 1) l.length)).drop (cntL key l - 1), ps))
  else none) else some (0, 0, false, [], [])
theorem proof_Build.calls (k : Nat) (A0 : Option Addr) (c0 : Nat) (l : List S86) (key : ByteArray) (n a : Int) (th : Bool) (near : List S86) (ps : List (List ByteArray)) (w : World) (hC : Kd.C k86 w A0 l.length l) (hc : l.length ≤ c0) (h : proof_Build.f k l key = some (n, a, th, near, ps)) :
  Calls Try.prog 53 #[.slice A0 l.length c0, .string key] w (BuildPost n a th near ps w) := by
 unfold proof_Build.f at h
 obtain ⟨b, hb, h⟩ := Option.bind_eq_some_iff.mp h
 by_cases h0 : b = true
 · subst h0
   rw [if_pos rfl] at h
   by_cases h1 : l.length ≤ 1000000 ∧ SplitAt l key
   · rw [if_pos h1] at h
     obtain ⟨lv, hlv, h⟩ := Option.bind_eq_some_iff.mp h
     have hlv := leavesF_ok l lv hlv
     by_cases h2 : (decide (cntL key l < l.length) && decide (cmpK (rd_T86 l (cntL key l : Int)).f0 key = 0)) = true
     · rw [if_pos h2] at h
       obtain ⟨p, hp, h⟩ := Option.bind_eq_some_iff.mp h
       injection h with h
       injection h with e1 h
       injection h with e2 h
       injection h with e3 h
       injection h with e4 e5
       subst e1 e2 e3 e4 e5
       exact build_yes A0 c0 l key k (cntL key l) lv true [] [p] w hC hc hb h1.1 hlv (cntL_le key l) h1.2 h2.symm (fun _ => ⟨rfl, p, rfl, hp⟩) (fun h => nomatch h)
     · rw [if_neg h2] at h
       obtain ⟨qs, hq, h⟩ := Option.bind_eq_some_iff.mp h
       obtain ⟨q1, q2⟩ := pathsF_ok k lv _ _ qs hq
       injection h with h
       injection h with e1 h
       injection h with e2 h
       injection h with e3 h
       injection h with e4 e5
       subst e1 e2 e3 e4 e5
       exact build_yes A0 c0 l key k (cntL key l) lv false _ qs w hC hc hb h1.1 hlv (cntL_le key l) h1.2 (Bool.not_eq_true _ ▸ h2).symm (fun h => nomatch h) (fun _ => ⟨rfl, q1, q2⟩)
   · rw [if_neg h1] at h
     cases h
 · obtain rfl : b = false := by simpa using h0
   rw [if_neg (by decide)] at h
   injection h with h
   injection h with e1 h
   injection h with e2 h
   injection h with e3 h
   injection h with e4 e5
   subst e1 e2 e3 e4 e5
   exact build_no A0 c0 l key k w hC hc hb
end Go.Proofs.Ytipgldfbjlhpoab.P
namespace Go.Proofs.Ytipgldfbjlhpoab.Pure
set_option linter.unusedVariables false
set_option linter.unusedSimpArgs false
open Go.RowKit Go.Proofs.Ytipgldfbjlhpoab.P Go.Proofs.Ytipgldfbjlhpoab.Wire Go.Proofs.Ytipgldfbjlhpoab.Sha Go.Proofs.YtipgldfbjlhpoabW.PrintWords Go.Proofs.YtipgldfbjlhpoabW.PrintLast
abbrev Pq := S86
def keyQ (p : Pq) : List UInt8 := p.f0.toList
theorem wsuc (i : Nat) (h : i < 1000000) : wrap64 ((i : Int) + 1) = ((i + 1 : Nat) : Int) := by rw [w64 (by omega) (by omega)]; omega
theorem wpre (i : Nat) (h : i < 1000000) : wrap64 (((i + 1 : Nat) : Int) - 1) = (i : Int) := by rw [w64 (by omega) (by omega)]; omega
def UpTo (l : List Pq) (n : Nat) : Prop := ∀ j (h : j + 1 < l.length), j < n → Op.bytesLess (keyQ l[j]) (keyQ l[j + 1]) = true
theorem up_to (l : List Pq) : Up keyQ l ↔ UpTo l l.length := ⟨fun h j hj _ => of_up keyQ l h j hj, fun h => up_of keyQ l (fun j hj => h j hj (by omega))⟩
theorem upTo_succ {l : List Pq} {i : Nat} (h : UpTo l i) (hi : i + 1 < l.length) (hl : Op.bytesLess (keyQ l[i]) (keyQ l[i + 1]) = true) : UpTo l (i + 1) := by
 intro j hj hlt
 by_cases e : j = i
 · subst e; exact hl
 · exact h j hj (by omega)
theorem prises_l0 (l : List Pq) (hl : l.length ≤ 1000) : ∀ (d k i : Nat), i + d + 1 = l.length → d < k → UpTo l i → ∃ b, proof_rises.l0 k l ((l.length : Int) - 1) (i : Int) = some b ∧ (b = true ↔ Up keyQ l) := by
 intro d
 induction d with
 | zero =>
  intro k i hi hk hu
  obtain ⟨k, rfl⟩ : ∃ q, k = q + 1 := ⟨k - 1, by omega⟩
  rw [proof_rises.l0, if_neg (by omega)]
  exact ⟨true, rfl, fun _ => (up_to l).mpr (fun j hj _ => hu j hj (by omega)), fun _ => rfl⟩
 | succ d ih =>
  intro k i hi hk hu
  obtain ⟨k, rfl⟩ : ∃ q, k = q + 1 := ⟨k - 1, by omega⟩
  rw [proof_rises.l0, if_pos (by omega), if_pos (by omega), if_pos (by omega), wsuc i (by omega), if_pos (by omega), if_pos (by omega), rd_mem i (by omega), rd_mem (i + 1) (by omega)]
  by_cases h : Op.bytesLess (keyQ (l[i]'(by omega))) (keyQ (l[i + 1]'(by omega))) = true
  · rw [if_pos (show Op.bytesLess ((l[i]'(by omega)).f0.toList) ((l[i + 1]'(by omega)).f0.toList) = true from h)]
    exact ih k (i + 1) (by omega) (by omega) (upTo_succ hu (by omega) h)
  · rw [if_neg (show ¬ Op.bytesLess ((l[i]'(by omega)).f0.toList) ((l[i + 1]'(by omega)).f0.toList) = true from h)]
    exact ⟨false, rfl, fun h => (nomatch h), fun hu => absurd (of_up keyQ l hu i (by omega)) h⟩
theorem prises (l : List Pq) (k : Nat) (hl : l.length ≤ 1000) (hk : l.length < k) : ∃ b, proof_rises.f k l = some b ∧ (b = true ↔ Up keyQ l) := by
 unfold proof_rises.f
 cases l with
 | nil =>
  obtain ⟨k, rfl⟩ : ∃ q, k = q + 1 := ⟨k - 1, by omega⟩
  exact ⟨true, by rw [proof_rises.l0, if_neg (show ¬ (0 : Int) < wrap64 ((([] : List Pq).length : Int) - 1) by decide +kernel)], fun _ => trivial, fun _ => rfl⟩
 | cons x l =>
  rw [show wrap64 (((x :: l).length : Int) - 1) = ((x :: l).length : Int) - 1 from w64 (by simp) (by simp at hl ⊢; omega)]
  exact prises_l0 (x :: l) hl l.length k 0 (by simp) (by simp at hk; omega) (fun j _ h => absurd h (Nat.not_lt_zero _))
theorem rrises_l0 (l : List Pq) (hl : l.length ≤ 1000) : ∀ (d k i : Nat), i + d + 1 = l.length → d < k → UpTo l i → ∃ b, footbridgeref12_Rises.l0 k l ((i + 1 : Nat) : Int) = some b ∧ (b = true ↔ Up keyQ l) := by
 intro d
 induction d with
 | zero =>
  intro k i hi hk hu
  obtain ⟨k, rfl⟩ : ∃ q, k = q + 1 := ⟨k - 1, by omega⟩
  rw [footbridgeref12_Rises.l0, if_neg (by omega)]
  exact ⟨true, rfl, fun _ => (up_to l).mpr (fun j hj _ => hu j hj (by omega)), fun _ => rfl⟩
 | succ d ih =>
  intro k i hi hk hu
  obtain ⟨k, rfl⟩ : ∃ q, k = q + 1 := ⟨k - 1, by omega⟩
  rw [footbridgeref12_Rises.l0, if_pos (by omega), wpre i (by omega), if_pos (by omega), if_pos (by omega), if_pos (by omega), rd_mem i (by omega), rd_mem (i + 1) (by omega)]
  by_cases h : Op.bytesLess (keyQ (l[i]'(by omega))) (keyQ (l[i + 1]'(by omega))) = true
  · rw [if_pos (show Op.bytesLess ((l[i]'(by omega)).f0.toList) ((l[i + 1]'(by omega)).f0.toList) = true from h), wsuc (i + 1) (by omega)]
    exact ih k (i + 1) (by omega) (by omega) (upTo_succ hu (by omega) h)
  · rw [if_neg (show ¬ Op.bytesLess ((l[i]'(by omega)).f0.toList) ((l[i + 1]'(by omega)).f0.toList) = true from h)]
    exact ⟨false, rfl, fun h => (nomatch h), fun hu => absurd (of_up keyQ l hu i (by omega)) h⟩
theorem rrises (l : List Pq) (k : Nat) (hl : l.length ≤ 1000) (hk : l.length < k) : ∃ b, footbridgeref12_Rises.f k l = some b ∧ (b = true ↔ Up keyQ l) := by
 unfold footbridgeref12_Rises.f
 cases l with
 | nil =>
  obtain ⟨k, rfl⟩ : ∃ q, k = q + 1 := ⟨k - 1, by omega⟩
  exact ⟨true, by rw [footbridgeref12_Rises.l0, if_neg (show ¬ (1 : Int) < (([] : List Pq).length : Int) by decide)], fun _ => trivial, fun _ => rfl⟩
 | cons x l => exact rrises_l0 (x :: l) hl l.length k 0 (by simp) (by simp at hk; omega) (fun j _ h => absurd h (Nat.not_lt_zero _))
theorem up_lt : ∀ (l : List Pq), Up keyQ l → ∀ i j (hi : i < l.length) (hj : j < l.length), i < j → Op.bytesLess (keyQ l[i]) (keyQ l[j]) = true := by
 intro l
 induction l with
 | nil => intro _ i j hi; simp at hi
 | cons x l ih =>
  intro hu i j hi hj hij
  obtain ⟨j, rfl⟩ : ∃ q, j = q + 1 := ⟨j - 1, by omega⟩
  cases i with
  | zero => exact hu.1 _ (List.getElem_mem (by simpa using hj))
  | succ i => exact ih hu.2 i j (by simpa using hi) (by simpa using hj) (by omega)
theorem cnt_less (key : ByteArray) : ∀ (l : List Pq) (i : Nat) (h : i < l.length), i < cntL key l → Op.bytesLess (keyQ l[i]) key.toList = true := by
 intro l
 induction l with
 | nil => intro i h; simp at h
 | cons x l ih =>
  intro i h hc
  rw [cntL] at hc
  split at hc
  · rename_i hx
    cases i with
    | zero => exact (cmpK_neg _ _).mp hx
    | succ i => exact ih i (by simpa using h) (by omega)
  · omega
theorem cnt_at (key : ByteArray) : ∀ (l : List Pq) (i : Nat) (h : i < l.length), i = cntL key l → Op.bytesLess (keyQ l[i]) key.toList = false := by
 intro l
 induction l with
 | nil => intro i h; simp at h
 | cons x l ih =>
  intro i h hc
  rw [cntL] at hc
  split at hc
  · rename_i hx
    obtain ⟨i, rfl⟩ : ∃ q, i = q + 1 := ⟨i - 1, by omega⟩
    exact ih i (by simpa using h) (by omega)
  · rename_i hx
    subst hc
    rw [Bool.eq_false_iff]
    exact fun hh => hx ((cmpK_neg _ _).mpr hh)
theorem cnt_more (key : ByteArray) (l : List Pq) (hu : Up keyQ l) (i : Nat) (h : i < l.length) (hc : cntL key l < i) : Op.bytesLess key.toList (keyQ l[i]) = true := by
 have h0 := cnt_at key l (cntL key l) (by omega) rfl
 have h1 := up_lt l hu (cntL key l) i (by omega) h hc
 cases h2 : Op.bytesLess key.toList (keyQ (l[cntL key l]'(by omega))) with
 | true => exact less_trans _ _ _ h2 h1
 | false => rw [← less_tri _ _ h0 h2]; exact h1
theorem cnt_split (key : ByteArray) (l : List Pq) (hu : Up keyQ l) : SplitAt l key := by
 intro i hi
 rw [rd_mem i hi, cmpK_neg]
 constructor
 · intro h
   by_cases hc : i < cntL key l
   · exact hc
   · exfalso
     by_cases he : i = cntL key l
     · have := cnt_at key l i hi he
       rw [keyQ, h] at this
       cases this
     · have := less_asymm (cnt_more key l hu i hi (by omega))
       rw [keyQ, h] at this
       cases this
 · exact cnt_less key l i hi
end Go.Proofs.Ytipgldfbjlhpoab.Pure
-- Printed by wip/myprint.py.
namespace Go.Proofs.Ytipgldfbjlhpoab.P
open Go.RowKit Go.Proofs.YtipgldfbjlhpoabW.PrintWords Go.Proofs.YtipgldfbjlhpoabW.PrintLast Go.Proofs.YtipgldfbjlhpoabW.PrintMore
attribute [local go_sem] max2_int min2_int max_two min_two max_three min_three max_four min_four   -- for this text's walks alone
attribute [local go_sem] geq_str gtr_str
set_option linter.unusedVariables false
set_option linter.unusedSimpArgs false
def footbridgeref12_path.f : Nat → List (S86) → Int → Option (List ByteArray)
 | 0, _, _ => none
 | k + 1, l0, a1 => if (l0.length : Int) < 2 then (some ([] : List ByteArray)) else ((footbridgeref11_Split.f k (l0.length : Int)).bind fun t1071 => (if a1 < t1071 then (if 0 ≤ t1071 then (if t1071 ≤ (l0.length : Int) then ((footbridgeref11_Tree.f k (l0.drop (t1071 : Int).toNat)).bind fun bt1076 => ((footbridgeref12_path.f k (l0.take (t1071 : Int).toNat) a1).bind fun t1084 => (if t1084.length < 8796093022208 then (some (t1084 ++ [bt1076.1])) else (none)))) else (none)) else (none)) else (if 0 ≤ t1071 then (if t1071 ≤ (l0.length : Int) then ((footbridgeref11_Tree.f k (l0.take (t1071 : Int).toNat)).bind fun bt1094 => ((footbridgeref12_path.f k (l0.drop (t1071 : Int).toNat) (wrap64 (a1 - t1071))).bind fun t1102 => (if t1102.length < 8796093022208 then (some (t1102 ++ [bt1094.1])) else (none)))) else (none)) else (none))))
mutual
def footbridgeref12_Build.j1 : Nat → List (S86) → ByteArray → Int → Option (Int × Int × Bool × (List (S86)) × (List (List ByteArray)))
 | 0, _, _, _ => none
 | k + 1, x0, x1, x5 => if x5 < (x0.length : Int) then (if 0 ≤ x5 then (footbridgeref12_Build.j2 k x0 x5 (((rd_T86 x0 x5).f0).toList == x1.toList) (x0.length : Int) x5 false) else (none)) else (footbridgeref12_Build.j2 k x0 x5 false (x0.length : Int) x5 false)
def footbridgeref12_Build.j2 : Nat → List (S86) → Int → Bool → Int → Int → Bool → Option (Int × Int × Bool × (List (S86)) × (List (List ByteArray)))
 | 0, _, _, _, _, _, _ => none
 | k + 1, x0, x5, x43, x1112000, x1112001, x1112002 => if x43 = true then ((footbridgeref12_path.f k x0 x5).bind fun t1113 => (some (x1112000, x1112001, true, ([] : List (S86)), (([t1113] : List (List ByteArray)))))) else (footbridgeref12_Build.l1 k x0 x5 (mx 0 (wrap64 (x5 - 1))) x1112000 x1112001 x1112002 ([] : List (S86)) ([] : List (List ByteArray)))
def footbridgeref12_Build.l1 : Nat → List (S86) → Int → Int → Int → Int → Bool → List (S86) → List (List ByteArray) → Option (Int × Int × Bool × (List (S86)) × (List (List ByteArray)))
 | 0, _, _, _, _, _, _, _, _ => none
 | k + 1, x0, x5, x7, x1112000, x1112001, x1112002, x1112003, x1112004 => if x7 ≤ x5 then (if x7 < (x0.length : Int) then (if 0 ≤ x7 then (if x1112003.length < 4398046511104 then ((footbridgeref12_path.f k x0 x7).bind fun t1123 => (if x1112004.length < 5864062014805 then (footbridgeref12_Build.l1 k x0 x5 (wrap64 (x7 + 1)) x1112000 x1112001 x1112002 (x1112003 ++ [(⟨(rd_T86 x0 x7).f0, (rd_T86 x0 x7).f1⟩ : S86)]) (x1112004 ++ [t1123])) else (none))) else (none)) else (none)) else (some (x1112000, x1112001, x1112002, x1112003, x1112004))) else (some (x1112000, x1112001, x1112002, x1112003, x1112004))
def footbridgeref12_Build.l0 : Nat → List (S86) → ByteArray → Int → Option (Int × Int × Bool × (List (S86)) × (List (List ByteArray)))
 | 0, _, _, _ => none
 | k + 1, x0, x1, x5 => if x5 < (x0.length : Int) then (if 0 ≤ x5 then (if (Op.bytesLess (((rd_T86 x0 x5).f0).toList) x1.toList) = true then (footbridgeref12_Build.l0 k x0 x1 (wrap64 (x5 + 1))) else (footbridgeref12_Build.j1 k x0 x1 x5)) else (none)) else (footbridgeref12_Build.j1 k x0 x1 x5)
end
def footbridgeref12_Build.f (k : Nat) (l0 : List (S86)) (a1 : ByteArray) : Option (Int × Int × Bool × (List (S86)) × (List (List ByteArray))) := (footbridgeref12_Rises.f k l0).bind fun t1109 => (if t1109 = true then (footbridgeref12_Build.l0 k l0 a1 0) else (some (0, 0, false, ([] : List (S86)), ([] : List (List ByteArray)))))
end Go.Proofs.Ytipgldfbjlhpoab.P
namespace Go.Proofs.Ytipgldfbjlhpoab.Pure
set_option linter.unusedVariables false
set_option linter.unusedSimpArgs false
open Go.RowKit Go.Proofs.Ytipgldfbjlhpoab.P Go.Proofs.Ytipgldfbjlhpoab.Wire Go.Proofs.Ytipgldfbjlhpoab.Sha Go.Proofs.YtipgldfbjlhpoabW.PrintWords Go.Proofs.YtipgldfbjlhpoabW.PrintLast
def lvs (l : List Pq) : List ByteArray := l.map fun p => sumB (leafT p)
theorem lvs_len (l : List Pq) : (lvs l).length = l.length := List.length_map _
theorem leaves_f (l : List Pq) (hs : short 200 l) : leavesF l = some (lvs l) := by
 induction l with
 | nil => rfl
 | cons x l ih =>
  have hx := hs x List.mem_cons_self
  rw [leavesF, leaf_f _ _ (by omega) (by omega), Option.bind_some, ih (fun p hp => hs p (List.mem_cons_of_mem _ hp))]
  rfl
theorem ptree_f : ∀ (d : Nat) (l : List Pq) (k : Nat), 1 ≤ l.length → l.length ≤ d → l.length ≤ k → l.length ≤ 1000 → short 200 l → proof_tree.f k (lvs l) = some (tree d l) := by
 intro d
 induction d with
 | zero => intro l k h1 h2 _ _ _; omega
 | succ d ih =>
  intro l k h1 h2 hk hl hs
  obtain ⟨k, rfl⟩ : ∃ q, k = q + 1 := ⟨k - 1, by omega⟩
  have hn := lvs_len l
  rw [proof_tree.f, tree, if_neg (show ¬ l.length = 0 by omega), hn]
  by_cases h : l.length = 1
  · rw [if_pos (by omega), if_pos h, if_pos (by omega)]
    match l, h with
    | [x], _ => rfl
  · have hp := parts_len l (by omega)
    have hb := sp_bounds l.length (by omega)
    have e1 : (lvs l).take (sp l.length) = lvs (l.take (sp l.length)) := by unfold lvs; rw [List.map_take]
    have e2 : (lvs l).drop (sp l.length) = lvs (l.drop (sp l.length)) := by unfold lvs; rw [List.map_drop]
    rw [if_neg (by omega), if_neg h, split_f _ (by omega), Option.bind_some, if_pos (by omega), if_pos (by omega), Int.toNat_natCast, e1, e2,
     ih (l.take (sp l.length)) k (by omega) (by omega) (by omega) (by omega) (short_take hs _), Option.bind_some,
     ih (l.drop (sp l.length)) k (by omega) (by omega) (by omega) (by omega) (short_drop hs _), Option.bind_some,
     node_f _ _ (by have := tree_size d (l.take (sp l.length)); omega) (by have := tree_size d (l.drop (sp l.length)); omega), Option.bind_some]
def pathP : Nat → List Pq → Nat → List ByteArray
 | 0, _, _ => []
 | d + 1, l, i => if l.length < 2 then [] else if i < sp l.length then pathP d (l.take (sp l.length)) i ++ [tree d (l.drop (sp l.length))] else pathP d (l.drop (sp l.length)) (i - sp l.length) ++ [tree d (l.take (sp l.length))]
theorem pathP_len : ∀ (d : Nat) (l : List Pq) (i : Nat), (pathP d l i).length ≤ d := by
 intro d
 induction d with
 | zero => intro l i; exact Nat.le_refl _
 | succ d ih =>
  intro l i
  rw [pathP]
  split
  · exact Nat.zero_le _
  · split
    · have := ih (l.take (sp l.length)) i; rw [List.length_append, List.length_singleton]; omega
    · have := ih (l.drop (sp l.length)) (i - sp l.length); rw [List.length_append, List.length_singleton]; omega
theorem ppath_f : ∀ (d : Nat) (l : List Pq) (k i : Nat), l.length ≤ d → l.length < k → l.length ≤ 1000 → d ≤ 1000 → short 200 l → i ≤ 1000 → proof_path.f k (lvs l) (i : Int) = some (pathP d l i) := by
 intro d
 induction d with
 | zero =>
  intro l k i h2 hk _ _ _ _
  obtain ⟨k, rfl⟩ : ∃ q, k = q + 1 := ⟨k - 1, by omega⟩
  have hn := lvs_len l
  rw [proof_path.f, if_pos (by omega), pathP]
 | succ d ih =>
  intro l k i h2 hk hl hd hs hi
  obtain ⟨k, rfl⟩ : ∃ q, k = q + 1 := ⟨k - 1, by omega⟩
  have hn := lvs_len l
  rw [proof_path.f, pathP, hn]
  by_cases h : l.length < 2
  · rw [if_pos (by omega), if_pos h]
  · have hp := parts_len l (by omega)
    have hb := sp_bounds l.length (by omega)
    have e1 : (lvs l).take (sp l.length) = lvs (l.take (sp l.length)) := by unfold lvs; rw [List.map_take]
    have e2 : (lvs l).drop (sp l.length) = lvs (l.drop (sp l.length)) := by unfold lvs; rw [List.map_drop]
    have p1 := pathP_len d (l.take (sp l.length)) i
    have p2 := pathP_len d (l.drop (sp l.length)) (i - sp l.length)
    rw [if_neg (by omega), if_neg h, split_f _ (by omega), Option.bind_some]
    by_cases hlt : i < sp l.length
    · rw [if_pos (by omega), if_pos hlt, if_pos (by omega), if_pos (by omega), Int.toNat_natCast, e1, e2,
       ih (l.take (sp l.length)) k i (by omega) (by omega) (by omega) (by omega) (short_take hs _) hi, Option.bind_some,
       ptree_f d (l.drop (sp l.length)) k (by omega) (by omega) (by omega) (by omega) (short_drop hs _), Option.bind_some, if_pos (by omega)]
    · have ew : wrap64 ((i : Int) - (sp l.length : Int)) = ((i - sp l.length : Nat) : Int) := by rw [w64 (by omega) (by omega)]; omega
      rw [if_neg (by omega), if_neg hlt, if_pos (by omega), if_pos (by omega), Int.toNat_natCast, ew, e1, e2,
       ih (l.drop (sp l.length)) k (i - sp l.length) (by omega) (by omega) (by omega) (by omega) (short_drop hs _) (by omega), Option.bind_some,
       ptree_f d (l.take (sp l.length)) k (by omega) (by omega) (by omega) (by omega) (short_take hs _), Option.bind_some, if_pos (by omega)]
theorem rpath_f : ∀ (d : Nat) (l : List Pq) (k i : Nat), l.length ≤ d → d + 80 ≤ k → l.length ≤ 1000 → d ≤ 1000 → short 200 l → i ≤ 1000 → footbridgeref12_path.f k l (i : Int) = some (pathP d l i) := by
 intro d
 induction d with
 | zero =>
  intro l k i h2 hk _ _ _ _
  obtain ⟨k, rfl⟩ : ∃ q, k = q + 1 := ⟨k - 1, by omega⟩
  rw [footbridgeref12_path.f, if_pos (by omega), pathP]
 | succ d ih =>
  intro l k i h2 hk hl hd hs hi
  obtain ⟨k, rfl⟩ : ∃ q, k = q + 1 := ⟨k - 1, by omega⟩
  rw [footbridgeref12_path.f, pathP]
  by_cases h : l.length < 2
  · rw [if_pos (by omega), if_pos h]
  · have hp := parts_len l (by omega)
    have hb := sp_bounds l.length (by omega)
    have p1 := pathP_len d (l.take (sp l.length)) i
    have p2 := pathP_len d (l.drop (sp l.length)) (i - sp l.length)
    rw [if_neg (by omega), if_neg h, rsplit_f _ (by omega) k (by omega), Option.bind_some]
    by_cases hlt : i < sp l.length
    · rw [if_pos (by omega), if_pos hlt, if_pos (by omega), if_pos (by omega), Int.toNat_natCast,
       rtree_f d (l.drop (sp l.length)) k (by omega) (by omega) (by omega) (short_drop hs _), Option.bind_some,
       ih (l.take (sp l.length)) k i (by omega) (by omega) (by omega) (by omega) (short_take hs _) hi, Option.bind_some, if_pos (by omega)]
    · have ew : wrap64 ((i : Int) - (sp l.length : Int)) = ((i - sp l.length : Nat) : Int) := by rw [w64 (by omega) (by omega)]; omega
      rw [if_neg (by omega), if_neg hlt, if_pos (by omega), if_pos (by omega), Int.toNat_natCast, ew,
       rtree_f d (l.take (sp l.length)) k (by omega) (by omega) (by omega) (short_take hs _), Option.bind_some,
       ih (l.drop (sp l.length)) k (i - sp l.length) (by omega) (by omega) (by omega) (by omega) (short_drop hs _) (by omega), Option.bind_some, if_pos (by omega)]
end Go.Proofs.Ytipgldfbjlhpoab.Pure
-- Printed by wip/myprint.py.
namespace Go.Proofs.Ytipgldfbjlhpoab.P
open Go.RowKit Go.Proofs.YtipgldfbjlhpoabW.PrintWords Go.Proofs.YtipgldfbjlhpoabW.PrintLast Go.Proofs.YtipgldfbjlhpoabW.PrintMore
attribute [local go_sem] max2_int min2_int max_two min_two max_three min_three max_four min_four   -- for this text's walks alone
set_option linter.unusedVariables false
set_option linter.unusedSimpArgs false
end Go.Proofs.Ytipgldfbjlhpoab.P
namespace Go.Proofs.Ytipgldfbjlhpoab.Pure
set_option linter.unusedVariables false
set_option linter.unusedSimpArgs false
open Go.RowKit Go.Proofs.Ytipgldfbjlhpoab.P Go.Proofs.Ytipgldfbjlhpoab.Wire Go.Proofs.YtipgldfbjlhpoabW.PrintWords Go.Proofs.YtipgldfbjlhpoabW.PrintLast
end Go.Proofs.Ytipgldfbjlhpoab.Pure
