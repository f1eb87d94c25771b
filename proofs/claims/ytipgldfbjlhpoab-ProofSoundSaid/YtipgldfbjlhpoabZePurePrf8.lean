/- Pairs that rise, and where a key stands among them. -/
import Derived.Test.YtipgldfbjlhpoabZePureMerkle
import Derived.Test.YtipgldfbjlhpoabZeHBin
import Derived.Test.YtipgldfbjlhpoabZePRWireR
import Derived.Test.YtipgldfbjlhpoabZeHBuildF
import Derived.Test.YtipgldfbjlhpoabZePProof
import Derived.Test.YtipgldfbjlhpoabZePR12L
import Derived.Test.YtipgldfbjlhpoabZePureWire
import Derived.Test.YtipgldfbjlhpoabZePWireL
import Derived.Test.YtipgldfbjlhpoabZePR09S
import Derived.Test.YtipgldfbjlhpoabZePR12S
namespace Go.Proofs.Ytipgldfbjlhpoab.Pure
set_option linter.unusedVariables false
set_option linter.unusedSimpArgs false
open Go.RowKit Go.Proofs.Ytipgldfbjlhpoab.P Go.Proofs.Ytipgldfbjlhpoab.Wire Go.Proofs.Ytipgldfbjlhpoab.Sha Go.Proofs.YtipgldfbjlhpoabW.PrintWords Go.Proofs.YtipgldfbjlhpoabW.PrintLast
abbrev Pq := S86
def keyQ (p : Pq) : List UInt8 := p.f0.toList
theorem wsuc (i : Nat) (h : i < 1000000) : wrap64 ((i : Int) + 1) = ((i + 1 : Nat) : Int) := by rw [w64 (by omega) (by omega)]; omega
theorem wpre (i : Nat) (h : i < 1000000) : wrap64 (((i + 1 : Nat) : Int) - 1) = (i : Int) := by rw [w64 (by omega) (by omega)]; omega
def UpTo (l : List Pq) (n : Nat) : Prop := ∀ j (h : j + 1 < l.length), j < n → Op.bytesLess (keyQ l[j]) (keyQ l[j + 1]) = true
theorem up_to (l : List Pq) : Up keyQ l ↔ UpTo l l.length := ⟨fun h j hj _ => of_up keyQ l h j hj, fun h => up_of keyQ l (fun j hj => h j hj (by omega))⟩
theorem upTo_succ {l : List Pq} {i : Nat} (h : UpTo l i) (hi : i + 1 < l.length) (hl : Op.bytesLess (keyQ l[i]) (keyQ l[i + 1]) = true) : UpTo l (i + 1) := by
 intro j hj hlt
 by_cases e : j = i
 · subst e; exact hl
 · exact h j hj (by omega)
theorem prises_l0 (l : List Pq) (hl : l.length ≤ 1000) : ∀ (d k i : Nat), i + d + 1 = l.length → d < k → UpTo l i → ∃ b, proof_rises.l0 k l ((l.length : Int) - 1) (i : Int) = some b ∧ (b = true ↔ Up keyQ l) := by
 intro d
 induction d with
 | zero =>
  intro k i hi hk hu
  obtain ⟨k, rfl⟩ : ∃ q, k = q + 1 := ⟨k - 1, by omega⟩
  rw [proof_rises.l0, if_neg (by omega)]; exact ⟨true, rfl, fun _ => (up_to l).mpr (fun j hj _ => hu j hj (by omega)), fun _ => rfl⟩
 | succ d ih =>
  intro k i hi hk hu
  obtain ⟨k, rfl⟩ : ∃ q, k = q + 1 := ⟨k - 1, by omega⟩
  rw [proof_rises.l0, if_pos (by omega), if_pos (by omega), if_pos (by omega), wsuc i (by omega), if_pos (by omega), if_pos (by omega), rd_mem i (by omega), rd_mem (i + 1) (by omega)]
  by_cases h : Op.bytesLess (keyQ (l[i]'(by omega))) (keyQ (l[i + 1]'(by omega))) = true
  · rw [if_pos (show Op.bytesLess ((l[i]'(by omega)).f0.toList) ((l[i + 1]'(by omega)).f0.toList) = true from h)]; exact ih k (i + 1) (by omega) (by omega) (upTo_succ hu (by omega) h)
  · rw [if_neg (show ¬ Op.bytesLess ((l[i]'(by omega)).f0.toList) ((l[i + 1]'(by omega)).f0.toList) = true from h)]; exact ⟨false, rfl, fun h => (nomatch h), fun hu => absurd (of_up keyQ l hu i (by omega)) h⟩
theorem prises (l : List Pq) (k : Nat) (hl : l.length ≤ 1000) (hk : l.length < k) : ∃ b, proof_rises.f k l = some b ∧ (b = true ↔ Up keyQ l) := by
 unfold proof_rises.f
 cases l with
 | nil =>
  obtain ⟨k, rfl⟩ : ∃ q, k = q + 1 := ⟨k - 1, by omega⟩
  exact ⟨true, by rw [proof_rises.l0, if_neg (show ¬ (0 : Int) < wrap64 ((([] : List Pq).length : Int) - 1) by decide +kernel)], fun _ => trivial, fun _ => rfl⟩
 | cons x l =>
  rw [show wrap64 (((x :: l).length : Int) - 1) = ((x :: l).length : Int) - 1 from w64 (by simp) (by simp at hl ⊢; omega)]; exact prises_l0 (x :: l) hl l.length k 0 (by simp) (by simp at hk; omega) (fun j _ h => absurd h (Nat.not_lt_zero _))
theorem rrises_l0 (l : List Pq) (hl : l.length ≤ 1000) : ∀ (d k i : Nat), i + d + 1 = l.length → d < k → UpTo l i → ∃ b, footbridgeref12_Rises.l0 k l ((i + 1 : Nat) : Int) = some b ∧ (b = true ↔ Up keyQ l) := by
 intro d
 induction d with
 | zero =>
  intro k i hi hk hu
  obtain ⟨k, rfl⟩ : ∃ q, k = q + 1 := ⟨k - 1, by omega⟩
  rw [footbridgeref12_Rises.l0, if_neg (by omega)]; exact ⟨true, rfl, fun _ => (up_to l).mpr (fun j hj _ => hu j hj (by omega)), fun _ => rfl⟩
 | succ d ih =>
  intro k i hi hk hu
  obtain ⟨k, rfl⟩ : ∃ q, k = q + 1 := ⟨k - 1, by omega⟩
  rw [footbridgeref12_Rises.l0, if_pos (by omega), wpre i (by omega), if_pos (by omega), if_pos (by omega), if_pos (by omega), rd_mem i (by omega), rd_mem (i + 1) (by omega)]
  by_cases h : Op.bytesLess (keyQ (l[i]'(by omega))) (keyQ (l[i + 1]'(by omega))) = true
  · rw [if_pos (show Op.bytesLess ((l[i]'(by omega)).f0.toList) ((l[i + 1]'(by omega)).f0.toList) = true from h), wsuc (i + 1) (by omega)]; exact ih k (i + 1) (by omega) (by omega) (upTo_succ hu (by omega) h)
  · rw [if_neg (show ¬ Op.bytesLess ((l[i]'(by omega)).f0.toList) ((l[i + 1]'(by omega)).f0.toList) = true from h)]; exact ⟨false, rfl, fun h => (nomatch h), fun hu => absurd (of_up keyQ l hu i (by omega)) h⟩
theorem rrises (l : List Pq) (k : Nat) (hl : l.length ≤ 1000) (hk : l.length < k) : ∃ b, footbridgeref12_Rises.f k l = some b ∧ (b = true ↔ Up keyQ l) := by
 unfold footbridgeref12_Rises.f
 cases l with
 | nil =>
  obtain ⟨k, rfl⟩ : ∃ q, k = q + 1 := ⟨k - 1, by omega⟩
  exact ⟨true, by rw [footbridgeref12_Rises.l0, if_neg (show ¬ (1 : Int) < (([] : List Pq).length : Int) by decide)], fun _ => trivial, fun _ => rfl⟩
 | cons x l => exact rrises_l0 (x :: l) hl l.length k 0 (by simp) (by simp at hk; omega) (fun j _ h => absurd h (Nat.not_lt_zero _))
theorem up_lt : ∀ (l : List Pq), Up keyQ l → ∀ i j (hi : i < l.length) (hj : j < l.length), i < j → Op.bytesLess (keyQ l[i]) (keyQ l[j]) = true := by
 intro l
 induction l with
 | nil => intro _ i j hi; simp at hi
 | cons x l ih =>
  intro hu i j hi hj hij
  obtain ⟨j, rfl⟩ : ∃ q, j = q + 1 := ⟨j - 1, by omega⟩
  cases i with
  | zero => exact hu.1 _ (List.getElem_mem (by simpa using hj))
  | succ i => exact ih hu.2 i j (by simpa using hi) (by simpa using hj) (by omega)
theorem cnt_less (key : ByteArray) : ∀ (l : List Pq) (i : Nat) (h : i < l.length), i < cntL key l → Op.bytesLess (keyQ l[i]) key.toList = true := by
 intro l
 induction l with
 | nil => intro i h; simp at h
 | cons x l ih =>
  intro i h hc; rw [cntL] at hc
  split at hc
  · rename_i hx
    cases i with
    | zero => exact (cmpK_neg _ _).mp hx
    | succ i => exact ih i (by simpa using h) (by omega)
  · omega
theorem cnt_at (key : ByteArray) : ∀ (l : List Pq) (i : Nat) (h : i < l.length), i = cntL key l → Op.bytesLess (keyQ l[i]) key.toList = false := by
 intro l
 induction l with
 | nil => intro i h; simp at h
 | cons x l ih =>
  intro i h hc; rw [cntL] at hc
  split at hc
  · rename_i hx
    obtain ⟨i, rfl⟩ : ∃ q, i = q + 1 := ⟨i - 1, by omega⟩
    exact ih i (by simpa using h) (by omega)
  · rename_i hx
    subst hc; rw [Bool.eq_false_iff]
    exact fun hh => hx ((cmpK_neg _ _).mpr hh)
theorem cnt_more (key : ByteArray) (l : List Pq) (hu : Up keyQ l) (i : Nat) (h : i < l.length) (hc : cntL key l < i) : Op.bytesLess key.toList (keyQ l[i]) = true := by
 have h0 := cnt_at key l (cntL key l) (by omega) rfl; have h1 := up_lt l hu (cntL key l) i (by omega) h hc
 cases h2 : Op.bytesLess key.toList (keyQ (l[cntL key l]'(by omega))) with
 | true => exact less_trans _ _ _ h2 h1
 | false => rw [← less_tri _ _ h0 h2]; exact h1
theorem cnt_split (key : ByteArray) (l : List Pq) (hu : Up keyQ l) : SplitAt l key := by
 intro i hi; rw [rd_mem i hi, cmpK_neg]; constructor
 · intro h
   by_cases hc : i < cntL key l
   · exact hc
   · exfalso
     by_cases he : i = cntL key l
     · have := cnt_at key l i hi he; rw [keyQ, h] at this; cases this
     · have := less_asymm (cnt_more key l hu i hi (by omega)); rw [keyQ, h] at this; cases this
 · exact cnt_less key l i hi
end Go.Proofs.Ytipgldfbjlhpoab.Pure
namespace Go.Proofs.Ytipgldfbjlhpoab.Pure
set_option linter.unusedVariables false
set_option linter.unusedSimpArgs false
open Go.RowKit Go.Proofs.Ytipgldfbjlhpoab.P Go.Proofs.Ytipgldfbjlhpoab.Wire Go.Proofs.Ytipgldfbjlhpoab.Sha Go.Proofs.YtipgldfbjlhpoabW.PrintWords Go.Proofs.YtipgldfbjlhpoabW.PrintLast
theorem log_lt63 (n : Nat) (h : 2 ≤ n) (hn : n < 9223372036854775808) : (n - 1).log2 < 63 := by
 rw [Nat.log2_lt (by omega)]; omega
def spI (n : Int) : Int := (sp n.toNat : Int)
theorem spI_nat (n : Nat) : spI (n : Int) = (sp n : Int) := by unfold spI; rw [Int.toNat_natCast]
theorem spI_bounds (n : Int) (h : 2 ≤ n) : 1 ≤ spI n ∧ spI n < n := by
 have := sp_bounds n.toNat (by omega); unfold spI; omega
theorem splitI_f (n : Int) (hn : n < 9223372036854775808) : merkle_Split.f n = some (spI n) := by
 unfold merkle_Split.f
 by_cases h : n < 2
 · rw [if_pos h]; unfold spI sp; rw [if_pos (by omega)]; rfl
 · obtain ⟨n, rfl⟩ := Int.eq_ofNat_of_zero_le (show 0 ≤ n by omega); have hl := log_lt63 n (by omega) (by omega)
   have w1 : wrap64 ((n : Int) - 1) = ((n - 1 : Nat) : Int) := by rw [w64 (by omega) (by omega)]; omega
   have w2 : IntKind.u64.wrap ((n - 1 : Nat) : Int) = ((n - 1 : Nat) : Int) := by simp [IntKind.wrap, IntKind.bits, IntKind.signed]; omega
   have hb : bitLen (n - 1) = (n - 1).log2 + 1 := by unfold bitLen; rw [if_neg (by omega)]
   have w3 : wrap64 ((((n - 1).log2 + 1 : Nat) : Int) - 1) = (((n - 1).log2 : Nat) : Int) := by rw [w64 (by omega) (by omega)]; omega
   rw [if_neg (by omega), w1, w2]; unfold bits_Len.f; rw [if_pos (by omega), if_pos (by omega), Int.toNat_natCast, hb, Option.bind_some, w3, if_pos (by omega), spI_nat]; unfold sp; rw [if_neg (by omega)]
   congr 1
   generalize (n - 1).log2 = j at hl
   clear w1 w2 w3 hb
   revert j
   decide +kernel
def emp : ByteArray := ⟨#[]⟩
def wkR : List ByteArray → Int → Int → ByteArray → ByteArray × List ByteArray × Bool
 | [], n, i, leaf => if i < 0 ∨ n ≤ i then (emp, [], false) else if n = 1 then (leaf, [], true) else (emp, [], false)
 | last :: q, n, i, leaf => if i < 0 ∨ n ≤ i then (emp, [], false) else if n = 1 then (leaf, [], false) else
   if i < spI n then (sumB (nodeT (wkR q (spI n) i leaf).1 last), (wkR q (spI n) i leaf).2.1 ++ [nodeT (wkR q (spI n) i leaf).1 last], (wkR q (spI n) i leaf).2.2)
   else (sumB (nodeT last (wkR q (n - spI n) (i - spI n) leaf).1), (wkR q (n - spI n) (i - spI n) leaf).2.1 ++ [nodeT last (wkR q (n - spI n) (i - spI n) leaf).1], (wkR q (n - spI n) (i - spI n) leaf).2.2)
theorem wkR_size : ∀ (q : List ByteArray) (n i : Int) (leaf : ByteArray), leaf.size = 32 → (wkR q n i leaf).1.size ≤ 32 := by
 intro q
 cases q with
 | nil =>
  intro n i leaf h; rw [wkR]
  split
  · exact Nat.zero_le _
  · split
    · exact Nat.le_of_eq h
    · exact Nat.zero_le _
 | cons last q =>
  intro n i leaf h; rw [wkR]
  split
  · exact Nat.zero_le _
  · split
    · exact Nat.le_of_eq h
    · split
      · exact Nat.le_of_eq (size_sumB _)
      · exact Nat.le_of_eq (size_sumB _)
theorem wkR_len : ∀ (q : List ByteArray) (n i : Int) (leaf : ByteArray), (wkR q n i leaf).2.1.length ≤ q.length := by
 intro q
 induction q with
 | nil =>
  intro n i leaf; rw [wkR]
  split
  · exact Nat.le_refl _
  · split
    · exact Nat.le_refl _
    · exact Nat.le_refl _
 | cons last q ih =>
  intro n i leaf; rw [wkR]
  split
  · exact Nat.zero_le _
  · split
    · exact Nat.zero_le _
    · split
      · have := ih (spI n) i leaf; simp only [List.length_append, List.length_cons, List.length_nil]; omega
      · have := ih (n - spI n) (i - spI n) leaf; simp only [List.length_append, List.length_cons, List.length_nil]; omega
theorem last_of (q : List ByteArray) (last : ByteArray) : rdOf ByteArray.empty (q.reverse ++ [last]) (q.length : Int) = last := by
 unfold rdOf; rw [Int.toNat_natCast, List.getD_eq_getElem?_getD, List.getElem?_append_right (by simp), List.length_reverse, Nat.sub_self]; rfl
theorem front_of (q : List ByteArray) (last : ByteArray) : (q.reverse ++ [last]).take q.length = q.reverse := by
 have := List.take_left (l₁ := q.reverse) (l₂ := [last])
 rwa [List.length_reverse] at this
theorem len_of (q : List ByteArray) (last : ByteArray) : (q.reverse ++ [last]).length = q.length + 1 := by simp
theorem walk_f : ∀ (q : List ByteArray) (k : Nat) (n i : Int) (leaf : ByteArray), 2 * q.length + 2 ≤ k → q.length ≤ 1000 → n < 9223372036854775808 → leaf.size = 32 → (∀ t ∈ q, t.size ≤ 1000) → proof_walk.f k n i leaf q.reverse = some ((wkR q n i leaf).1, (wkR q n i leaf).2.2) := by
 intro q
 induction q with
 | nil =>
  intro k n i leaf hk hl hn hz hq
  obtain ⟨k, rfl⟩ : ∃ p, k = p + 2 := ⟨k - 2, by omega⟩
  rw [proof_walk.f, proof_walk.j0, proof_walk.j0, wkR]
  by_cases h0 : i < 0
  · rw [if_pos h0, if_pos rfl, if_pos (Or.inl h0)]; rfl
  · rw [if_neg h0]
    by_cases h1 : i ≥ n
    · rw [if_pos (decide_eq_true h1), if_pos (Or.inr h1)]; rfl
    · rw [if_neg (by simpa using h1), if_neg (show ¬ (i < 0 ∨ n ≤ i) by omega)]
      by_cases h2 : n = 1
      · rw [if_pos h2, if_pos h2]; rfl
      · rw [if_neg h2, if_neg h2, if_pos (by simp)]; rfl
 | cons last q ih =>
  intro k n i leaf hk hl hn hz hq; rw [List.length_cons] at hk hl
  obtain ⟨k, rfl⟩ : ∃ p, k = p + 2 := ⟨k - 2, by omega⟩
  have hz1 := wkR_size q (spI n) i leaf hz; have hz2 := wkR_size q (n - spI n) (i - spI n) leaf hz; have hla := hq last List.mem_cons_self; have hlen := len_of q last
  have hw : wrap64 (((q.reverse ++ [last]).length : Int) - 1) = (q.length : Int) := by rw [hlen]; exact wpre q.length (by omega)
  rw [List.reverse_cons, proof_walk.f, proof_walk.j0, proof_walk.j0, wkR, hw]
  by_cases h0 : i < 0
  · rw [if_pos h0, if_pos rfl, if_pos (Or.inl h0)]; rfl
  · rw [if_neg h0]
    by_cases h1 : i ≥ n
    · rw [if_pos (decide_eq_true h1), if_pos (Or.inr h1)]; rfl
    · rw [if_neg (by simpa using h1), if_neg (show ¬ (i < 0 ∨ n ≤ i) by omega)]
      by_cases h2 : n = 1
      · rw [if_pos h2, if_pos h2, hlen]
        have : (((q.length + 1 : Nat) : Int) == 0) = false := by rw [beq_eq_false_iff_ne]; omega
        rw [this]
      · have hb := spI_bounds n (by omega); rw [if_neg h2, if_neg h2, if_neg (by rw [hlen]; omega), splitI_f n hn, Option.bind_some, Int.toNat_natCast, front_of, last_of]
        by_cases h3 : i < spI n
        · rw [if_pos h3, if_pos h3, if_pos (by omega), if_pos (by rw [hlen]; omega), ih k (spI n) i leaf (by omega) (by omega) (by omega) hz (fun t ht => hq t (List.mem_cons_of_mem _ ht)), Option.bind_some, if_pos (by rw [hlen]; omega),
           node_f _ _ (by dsimp only; omega) (by omega), Option.bind_some]
        · have w1 : wrap64 (n - spI n) = n - spI n := w64 (by omega) (by omega); have w2 : wrap64 (i - spI n) = i - spI n := w64 (by omega) (by omega)
          rw [if_neg h3, if_neg h3, if_pos (by omega), if_pos (by rw [hlen]; omega), w1, w2, ih k (n - spI n) (i - spI n) leaf (by omega) (by omega) (by omega) hz (fun t ht => hq t (List.mem_cons_of_mem _ ht)), Option.bind_some, if_pos (by rw [hlen]; omega),
           node_f _ _ (by omega) (by dsimp only; omega), Option.bind_some]
def ledM (root : ByteArray) (p : Pq) (n i : Int) (path : List ByteArray) : Bool × List ByteArray :=
 if (wkR path.reverse n i (sumB (leafT p))).2.2 = true then ((sumB (topT n (wkR path.reverse n i (sumB (leafT p))).1)).toList == root.toList, leafT p :: ((wkR path.reverse n i (sumB (leafT p))).2.1 ++ [topT n (wkR path.reverse n i (sumB (leafT p))).1]))
 else (false, [])
theorem leads_f (root : ByteArray) (p : Pq) (n i : Int) (path : List ByteArray) (k : Nat) (hk : 2 * path.length + 2 ≤ k) (hl : path.length ≤ 1000) (hn : n < 9223372036854775808) (hp : p.f0.size ≤ 1000 ∧ p.f1.size ≤ 1000) (hq : ∀ t ∈ path, t.size ≤ 1000) : proof_leads.f k root p.f0 p.f1 n i path = some (ledM root p n i path).1 := by
 have hw := walk_f path.reverse k n i (sumB (leafT p)) (by rw [List.length_reverse]; omega) (by rw [List.length_reverse]; omega) hn (size_sumB _) (fun t ht => hq t (List.mem_reverse.mp ht)); rw [List.reverse_reverse] at hw; have hz := wkR_size path.reverse n i (sumB (leafT p)) (size_sumB _); unfold proof_leads.f ledM; rw [leaf_f _ _ hp.1 hp.2, Option.bind_some, show (⟨p.f0, p.f1⟩ : Pq) = p from rfl, hw, Option.bind_some]; dsimp only
 by_cases h : (wkR path.reverse n i (sumB (leafT p))).2.2 = true
 · rw [if_pos h, if_pos h, top_f _ _ (by omega), Option.bind_some]
 · rw [if_neg h, if_neg h]
end Go.Proofs.Ytipgldfbjlhpoab.Pure
namespace Go.Proofs.Ytipgldfbjlhpoab.Pure
set_option linter.unusedVariables false
set_option linter.unusedSimpArgs false
open Go.RowKit Go.Proofs.Ytipgldfbjlhpoab.P Go.Proofs.Ytipgldfbjlhpoab.Wire Go.Proofs.Ytipgldfbjlhpoab.Sha Go.Proofs.YtipgldfbjlhpoabW.PrintWords Go.Proofs.YtipgldfbjlhpoabW.PrintLast
theorem rsplitI_l0 (n : Nat) (hn : n < 9223372036854775808) : ∀ (d j k : Nat), j + d = 63 → 2 ^ j < n → d < k → footbridgeref11_Split.l0 k (n : Int) ((2 ^ j : Nat) : Int) = some (sp n : Int) := by
 intro d
 induction d with
 | zero =>
  intro j k hj h hk
  obtain rfl : j = 63 := by omega
  have : (2 : Nat) ^ 63 = 9223372036854775808 := rfl; omega
 | succ d ih =>
  intro j k hj h hk
  obtain ⟨k, rfl⟩ : ∃ q, k = q + 1 := ⟨k - 1, by omega⟩
  obtain ⟨p, hp⟩ : ∃ p, p = 2 ^ j := ⟨_, rfl⟩
  have hs : 2 ^ (j + 1) = 2 * p := by rw [Nat.pow_succ, hp]; omega
  have hp1 : p < n := by rw [hp]; exact h
  rw [← hp]
  have w1 : wrap64 ((n : Int) - (p : Int)) = ((n - p : Nat) : Int) := by rw [w64 (by omega) (by omega)]; omega
  rw [footbridgeref11_Split.l0, w1]
  by_cases h2 : 2 * p < n
  · have := ih (j + 1) k (by omega) (by rw [hs]; exact h2) (by omega); rw [hs] at this
    have w2 : wrap64 (2 * (p : Int)) = ((2 * p : Nat) : Int) := by rw [w64 (by omega) (by omega)]; omega
    rw [w2, if_pos (by clear w1 w2; omega)]; exact this
  · rw [if_neg (by clear w1; omega), sp_eq n j (by rw [← hp]; exact hp1) (by rw [← hp]; omega), hp]
theorem rsplitI_f (n : Int) (hn : n < 9223372036854775808) (k : Nat) (hk : 70 ≤ k) : footbridgeref11_Split.f k n = some (spI n) := by
 unfold footbridgeref11_Split.f
 by_cases h : n < 2
 · rw [if_pos h]; unfold spI sp; rw [if_pos (by omega)]; rfl
 · rw [if_neg h]; obtain ⟨n, rfl⟩ := Int.eq_ofNat_of_zero_le (show 0 ≤ n by omega); rw [spI_nat]; exact rsplitI_l0 n (by omega) 63 0 k (by omega) (by simp; omega) (by omega)
theorem rwalk_f : ∀ (q : List ByteArray) (k : Nat) (n i : Int) (leaf : ByteArray), 2 * q.length + 80 ≤ k → q.length ≤ 1000 → n < 9223372036854775808 → leaf.size = 32 → (∀ t ∈ q, t.size ≤ 1000) → footbridgeref12_Walk.f k n i leaf q.reverse = some (wkR q n i leaf) := by
 intro q
 induction q with
 | nil =>
  intro k n i leaf hk hl hn hz hq
  obtain ⟨k, rfl⟩ : ∃ p, k = p + 2 := ⟨k - 2, by omega⟩
  rw [footbridgeref12_Walk.f, footbridgeref12_Walk.j0, footbridgeref12_Walk.j0, wkR]
  by_cases h0 : i < 0
  · rw [if_pos h0, if_pos rfl, if_pos (Or.inl h0)]; rfl
  · rw [if_neg h0]
    by_cases h1 : i ≥ n
    · rw [if_pos (decide_eq_true h1), if_pos (Or.inr h1)]; rfl
    · rw [if_neg (by simpa using h1), if_neg (show ¬ (i < 0 ∨ n ≤ i) by omega)]
      by_cases h2 : n = 1
      · rw [if_pos h2, if_pos h2]; rfl
      · rw [if_neg h2, if_neg h2, if_pos (by simp)]; rfl
 | cons last q ih =>
  intro k n i leaf hk hl hn hz hq; rw [List.length_cons] at hk hl
  obtain ⟨k, rfl⟩ : ∃ p, k = p + 2 := ⟨k - 2, by omega⟩
  have hz1 := wkR_size q (spI n) i leaf hz; have hz2 := wkR_size q (n - spI n) (i - spI n) leaf hz; have hl1 := wkR_len q (spI n) i leaf; have hl2 := wkR_len q (n - spI n) (i - spI n) leaf; have hla := hq last List.mem_cons_self; have hlen := len_of q last
  have hw : wrap64 (((q.reverse ++ [last]).length : Int) - 1) = (q.length : Int) := by rw [hlen]; exact wpre q.length (by omega)
  rw [List.reverse_cons, footbridgeref12_Walk.f, footbridgeref12_Walk.j0, footbridgeref12_Walk.j0, wkR, hw]
  by_cases h0 : i < 0
  · rw [if_pos h0, if_pos rfl, if_pos (Or.inl h0)]; rfl
  · rw [if_neg h0]
    by_cases h1 : i ≥ n
    · rw [if_pos (decide_eq_true h1), if_pos (Or.inr h1)]; rfl
    · rw [if_neg (by simpa using h1), if_neg (show ¬ (i < 0 ∨ n ≤ i) by omega)]
      by_cases h2 : n = 1
      · rw [if_pos h2, if_pos h2, hlen]
        have : (((q.length + 1 : Nat) : Int) == 0) = false := by rw [beq_eq_false_iff_ne]; omega
        rw [this]
      · have hb := spI_bounds n (by omega); rw [if_neg h2, if_neg h2, if_neg (by rw [hlen]; omega), rsplitI_f n hn k (by omega), Option.bind_some, Int.toNat_natCast, front_of, last_of, if_pos (by omega), if_pos (by rw [hlen]; omega)]
        by_cases h3 : i < spI n
        · rw [if_pos h3, if_pos h3, if_pos (by rw [hlen]; omega), ih k (spI n) i leaf (by omega) (by omega) (by omega) hz (fun t ht => hq t (List.mem_cons_of_mem _ ht)), Option.bind_some,
           rnode_f _ _ (by omega) (by omega), Option.bind_some, rsum_f _ (by rw [size_nodeT]; omega), Option.bind_some, if_pos (by omega)]
        · have w1 : wrap64 (n - spI n) = n - spI n := w64 (by omega) (by omega); have w2 : wrap64 (i - spI n) = i - spI n := w64 (by omega) (by omega)
          rw [if_neg h3, if_neg h3, if_pos (by rw [hlen]; omega), w1, w2, ih k (n - spI n) (i - spI n) leaf (by omega) (by omega) (by omega) hz (fun t ht => hq t (List.mem_cons_of_mem _ ht)), Option.bind_some,
           rnode_f _ _ (by omega) (by omega), Option.bind_some, rsum_f _ (by rw [size_nodeT]; omega), Option.bind_some, if_pos (by omega)]
theorem rleads_f (root : ByteArray) (p : Pq) (n i : Int) (path : List ByteArray) (k : Nat) (hk : 2 * path.length + 80 ≤ k) (hl : path.length ≤ 1000) (hn : n < 9223372036854775808) (hp : p.f0.size ≤ 1000 ∧ p.f1.size ≤ 1000) (hq : ∀ t ∈ path, t.size ≤ 1000) : footbridgeref12_leads.f k root p.f0 p.f1 n i path = some (ledM root p n i path) := by
 have hw := rwalk_f path.reverse k n i (sumB (leafT p)) (by rw [List.length_reverse]; omega) (by rw [List.length_reverse]; omega) hn (size_sumB _) (fun t ht => hq t (List.mem_reverse.mp ht)); rw [List.reverse_reverse] at hw; have hz := wkR_size path.reverse n i (sumB (leafT p)) (size_sumB _); have hlen := wkR_len path.reverse n i (sumB (leafT p)); rw [List.length_reverse] at hlen; have e0 := enc1_le p.f0 (by omega); have e1 := enc1_le p.f1 (by omega); have z := size_numE n; unfold footbridgeref12_leads.f ledM; rw [rleaf_f _ _ k (by omega) hp.1 hp.2, Option.bind_some, show (⟨p.f0, p.f1⟩ : Pq) = p from rfl, rsum_f _ (by rw [size_leafT]; omega), Option.bind_some, hw, Option.bind_some]
 by_cases h : (wkR path.reverse n i (sumB (leafT p))).2.2 = true
 · rw [if_pos h, if_pos h, rtop_f _ _ k (by omega) (by omega), Option.bind_some, Option.bind_some, if_pos (by rw [List.length_singleton]; omega), Option.bind_some, if_pos (by rw [List.length_append, List.length_singleton]; omega), rsum_f _ (by rw [size_topT]; omega), Option.bind_some]; rfl
 · rw [if_neg h, if_neg h]
theorem led_len (root : ByteArray) (p : Pq) (n i : Int) (path : List ByteArray) : (ledM root p n i path).2.length ≤ path.length + 2 := by
 have hlen := wkR_len path.reverse n i (sumB (leafT p)); rw [List.length_reverse] at hlen; unfold ledM
 split
 · simp only [List.length_cons, List.length_append, List.length_nil]; omega
 · exact Nat.zero_le _
def sideK (p : Pq) (key : ByteArray) (below : Bool) : Bool := if below = true then Op.bytesLess p.f0.toList key.toList else Op.bytesLess key.toList p.f0.toList
def lkM (root key : ByteArray) (n a : Int) : List Pq → List (List ByteArray) → Int → List ByteArray → Bool × List ByteArray
 | p :: near, q :: ps, i, acc => if sideK p key (decide (i < a)) = true then (if (ledM root p n i q).1 = true then lkM root key n a near ps (i + 1) (acc ++ (ledM root p n i q).2) else (false, [])) else (false, [])
 | _, _, _, acc => if n = 0 then ((sumB (topT 0 emp)).toList == root.toList, [topT 0 emp]) else (true, acc)
def fromK (a : Int) : Int := mx 0 (a - 1)
def manyK (n a : Int) : Int := (if a < n then a + 1 else a) - fromK a
def lksM (root key : ByteArray) (n a : Int) (th : Bool) (near : List Pq) (ps : List (List ByteArray)) : Bool × List ByteArray :=
 if th = true ∨ a < 0 ∨ n < a then (false, []) else if (near.length : Int) = manyK n a ∧ (ps.length : Int) = manyK n a then lkM root key n a near ps (fromK a) [] else (false, [])
def hasM (root : ByteArray) (p : Pq) (n a : Int) (th : Bool) (near : List Pq) (ps : List (List ByteArray)) : Bool × List ByteArray :=
 if th = true ∧ near.length = 0 ∧ ps.length = 1 then ledM root p n a (ps.headD []) else (false, [])
structure SmallP (near : List Pq) (ps : List (List ByteArray)) : Prop where
 hn : near.length ≤ 4
 hp : ps.length ≤ 4
 hs : short 200 near
 h1 : ∀ p ∈ ps, p.length ≤ 60
 h2 : ∀ p ∈ ps, ∀ t ∈ p, t.size ≤ 100
theorem has_f (root : ByteArray) (p : Pq) (n a : Int) (th : Bool) (near : List Pq) (ps : List (List ByteArray)) (k : Nat) (hk : 300 ≤ k) (hn : n < 9223372036854775808) (hp : p.f0.size ≤ 200 ∧ p.f1.size ≤ 200) (hS : SmallP near ps) : proof_Has.f k root p.f0 p.f1 n a th near ps = some (hasM root p n a th near ps).1 ∧ footbridgeref12_Has.f k root p.f0 p.f1 n a th near ps = some (hasM root p n a th near ps) := by
 have hno : ¬ (th = true ∧ near.length = 0 ∧ ps.length = 1) → hasM root p n a th near ps = (false, []) := fun h => if_neg h
 by_cases h0 : th = true
 · by_cases h1 : near.length = 0
   · by_cases h2 : ps.length = 1
     · obtain ⟨q, rfl⟩ : ∃ q, ps = [q] := List.length_eq_one_iff.mp h2
       have hq1 := hS.h1 q List.mem_cons_self
       have hq2 : ∀ t ∈ q, t.size ≤ 1000 := fun t ht => by have := hS.h2 q List.mem_cons_self t ht; omega
       have hc : (0 : Int) < ((([q] : List (List ByteArray)).length : Nat) : Int) := Int.zero_lt_one; have hc1 : ((([q] : List (List ByteArray)).length : Nat) : Int) = 1 := rfl
       have hn0 : (near.length : Int) = 0 := by omega
       have e : hasM root p n a th near [q] = ledM root p n a q := if_pos ⟨h0, h1, h2⟩; rw [e]; constructor
       · unfold proof_Has.f; rw [if_pos h0, if_pos hn0, if_pos hc1, if_pos hc, show rd_L10 [q] 0 = q from rfl, leads_f root p n a q k (by omega) (by omega) hn (by omega) hq2]; rfl
       · unfold footbridgeref12_Has.f; rw [if_pos h0, if_pos hn0, if_pos hc1, if_pos hc, show rd_L10 [q] 0 = q from rfl, rleads_f root p n a q k (by omega) (by omega) hn (by omega) hq2]; rfl
     · have hp1 : ¬ (ps.length : Int) = 1 := by omega
       have hn0 : (near.length : Int) = 0 := by omega
       rw [hno (fun h => h2 h.2.2)]; constructor
       · unfold proof_Has.f; rw [if_pos h0, if_pos hn0, if_neg hp1]
       · unfold footbridgeref12_Has.f; rw [if_pos h0, if_pos hn0, if_neg hp1]
   · have hn0 : ¬ (near.length : Int) = 0 := by omega
     rw [hno (fun h => h1 h.2.1)]; constructor
     · unfold proof_Has.f; rw [if_pos h0, if_neg hn0]
     · unfold footbridgeref12_Has.f; rw [if_pos h0, if_neg hn0]
 · rw [hno (fun h => h0 h.1)]; constructor
   · unfold proof_Has.f; rw [if_neg h0]
   · unfold footbridgeref12_Has.f; rw [if_neg h0]
end Go.Proofs.Ytipgldfbjlhpoab.Pure
namespace Go.Proofs.Ytipgldfbjlhpoab.Pure
set_option linter.unusedVariables false
set_option linter.unusedSimpArgs false
open Go.RowKit Go.Proofs.Ytipgldfbjlhpoab.P Go.Proofs.Ytipgldfbjlhpoab.Wire Go.Proofs.YtipgldfbjlhpoabW.PrintWords Go.Proofs.YtipgldfbjlhpoabW.PrintLast
end Go.Proofs.Ytipgldfbjlhpoab.Pure
namespace Go.Proofs.Ytipgldfbjlhpoab.Pure
set_option linter.unusedVariables false
set_option linter.unusedSimpArgs false
open Go.RowKit Go.Proofs.Ytipgldfbjlhpoab.P Go.Proofs.Ytipgldfbjlhpoab.Wire Go.Proofs.YtipgldfbjlhpoabW.PrintWords Go.Proofs.YtipgldfbjlhpoabW.PrintLast
theorem texts_l0 (l : List ByteArray) (hl : l.length ≤ 1000000000) : ∀ (d k i : Nat), i + d = l.length → d < k → footbridgeref01_Texts.l0 k l l (i : Int) = some true := by
 intro d
 induction d with
 | zero =>
  intro k i hi hk
  obtain ⟨k, rfl⟩ : ∃ q, k = q + 1 := ⟨k - 1, by omega⟩
  rw [footbridgeref01_Texts.l0, if_neg (by omega)]
 | succ d ih =>
  intro k i hi hk
  obtain ⟨k, rfl⟩ : ∃ q, k = q + 1 := ⟨k - 1, by omega⟩
  have this := ih k (i + 1) (by omega) (by omega)
  have w : wrap64 ((i : Int) + 1) = ((i + 1 : Nat) : Int) := by rw [w64 (by omega) (by omega)]; omega
  rw [footbridgeref01_Texts.l0, if_pos (by clear w; omega), if_pos (by clear w; omega), if_pos (by clear w; omega), if_pos rfl, w, this]
theorem texts_f (l : List ByteArray) (k : Nat) (hl : l.length ≤ 1000000000) (hk : l.length < k) : footbridgeref01_Texts.f k l l = some true := by
 unfold footbridgeref01_Texts.f; rw [if_pos rfl]; exact texts_l0 l hl l.length k 0 (by omega) hk
end Go.Proofs.Ytipgldfbjlhpoab.Pure
namespace Go.Proofs.Ytipgldfbjlhpoab.Pure
set_option linter.unusedVariables false
set_option linter.unusedSimpArgs false
open Go.RowKit Go.Proofs.Ytipgldfbjlhpoab.P Go.Proofs.Ytipgldfbjlhpoab.Wire Go.Proofs.Ytipgldfbjlhpoab.Sha Go.Proofs.YtipgldfbjlhpoabW.PrintWords Go.Proofs.YtipgldfbjlhpoabW.PrintLast
theorem few12_l0 (l : List S86) (hl : l.length ≤ 1000) : ∀ (d k i : Nat), i + d = l.length → d < k →
  ∃ b, footbridgelaw12_few.l0 k l (i : Int) = some b ∧ (b = true → ∀ j (hj : j < l.length), i ≤ j → (l[j]).f0.size ≤ 100 ∧ (l[j]).f1.size ≤ 100) := by
 intro d
 induction d with
 | zero =>
  intro k i hi hk
  obtain ⟨k, rfl⟩ : ∃ q, k = q + 1 := ⟨k - 1, by omega⟩
  rw [footbridgelaw12_few.l0, if_neg (by omega)]; exact ⟨true, rfl, fun _ j hj hij => by omega⟩
 | succ d ih =>
  intro k i hi hk
  obtain ⟨k, rfl⟩ : ∃ q, k = q + 1 := ⟨k - 1, by omega⟩
  have hil : i < l.length := by omega
  rw [footbridgelaw12_few.l0, if_pos (by omega), if_pos (by omega), rd_mem i hil]
  by_cases h0 : ((l[i]).f0.size : Int) > 100
  · rw [if_pos h0]; exact ⟨false, rfl, fun h => by cases h⟩
  · rw [if_neg h0]
    by_cases h1 : ((l[i]).f1.size : Int) > 100
    · rw [if_pos h1]; exact ⟨false, rfl, fun h => by cases h⟩
    · rw [if_neg h1]
      have w : wrap64 ((i : Int) + 1) = ((i + 1 : Nat) : Int) := by rw [w64 (by omega) (by omega)]; omega
      obtain ⟨b, hb, hs⟩ := ih k (i + 1) (by omega) (by omega); rw [w, hb]; refine ⟨b, rfl, fun hbt j hj hij => ?_⟩
      by_cases e : i = j
      · subst e; omega
      · exact hs hbt j hj (by omega)
theorem few12_f (l : List S86) (m : Nat) (hm : m ≤ 1000) (k : Nat) (hk : m < k) : ∃ b, footbridgelaw12_few.f k l (m : Int) = some b ∧ (b = true → l.length ≤ m ∧ short 100 l) := by
 unfold footbridgelaw12_few.f
 by_cases h : (l.length : Int) > (m : Int)
 · rw [if_pos h]; exact ⟨false, rfl, fun h => by cases h⟩
 · rw [if_neg h]; obtain ⟨b, hb, hs⟩ := few12_l0 l (by omega) l.length k 0 (by omega) (by omega); rw [show ((0 : Nat) : Int) = 0 from rfl] at hb; rw [hb]; refine ⟨b, rfl, fun hbt => ⟨by omega, fun p hp => ?_⟩⟩; obtain ⟨j, hj, rfl⟩ := List.mem_iff_getElem.mp hp; exact hs hbt j hj (Nat.zero_le _)
theorem same09_l0 (l : List Pq) (hl : l.length ≤ 1000) : ∀ (d k i : Nat), i + d = l.length → d < k → footbridgeref09_Same.l0 k l l (i : Int) = some true := by
 intro d
 induction d with
 | zero =>
  intro k i hi hk
  obtain ⟨k, rfl⟩ : ∃ q, k = q + 1 := ⟨k - 1, by omega⟩
  rw [footbridgeref09_Same.l0, if_neg (by omega)]
 | succ d ih =>
  intro k i hi hk
  obtain ⟨k, rfl⟩ : ∃ q, k = q + 1 := ⟨k - 1, by omega⟩
  rw [footbridgeref09_Same.l0, if_pos (by omega), if_pos (by omega), if_pos (by omega), if_neg (by simp), wsuc i (by omega)]; exact ih k (i + 1) (by omega) (by omega)
theorem same09 (l : List Pq) (k : Nat) (hl : l.length ≤ 1000) (hk : l.length < k) : footbridgeref09_Same.f k l l = some true := by
 unfold footbridgeref09_Same.f; rw [if_pos rfl]; exact same09_l0 l hl l.length k 0 (by omega) hk
theorem rdL {l : List (List ByteArray)} (i : Nat) (h : i < l.length) : rd_L10 l (i : Int) = l[i] := by
 unfold rd_L10; rw [Int.toNat_natCast, List.getD_eq_getElem?_getD, List.getElem?_eq_getElem h]; rfl
theorem same12_l0 (n a : Int) (th : Bool) (near : List Pq) (ps : List (List ByteArray)) (hp : ps.length ≤ 1000) (hq : ∀ p ∈ ps, p.length ≤ 1000) : ∀ (d k i : Nat), i + d = ps.length → d + 1010 < k → footbridgeref12_Same.l0 k (i : Int) n a th near ps n a th near ps = some true := by
 intro d
 induction d with
 | zero =>
  intro k i hi hk
  obtain ⟨k, rfl⟩ : ∃ q, k = q + 1 := ⟨k - 1, by omega⟩
  rw [footbridgeref12_Same.l0, if_neg (by omega)]
 | succ d ih =>
  intro k i hi hk
  obtain ⟨k, rfl⟩ : ∃ q, k = q + 1 := ⟨k - 1, by omega⟩
  have hil : i < ps.length := by omega
  have := hq ps[i] (List.getElem_mem hil); rw [footbridgeref12_Same.l0, if_pos (by omega), if_pos (by omega), if_pos (by omega), rdL i hil, texts_f _ k (by omega) (by omega), Option.bind_some, if_pos rfl, wsuc i (by omega)]; exact ih k (i + 1) (by omega) (by omega)
theorem same12 (n a : Int) (th : Bool) (near : List Pq) (ps : List (List ByteArray)) (k : Nat) (hn : near.length ≤ 1000) (hp : ps.length ≤ 1000) (hq : ∀ p ∈ ps, p.length ≤ 1000) (hk : 2100 ≤ k) : footbridgeref12_Same.f k n a th near ps n a th near ps = some true := by
 obtain ⟨k, rfl⟩ : ∃ q, k = q + 1 := ⟨k - 1, by omega⟩
 unfold footbridgeref12_Same.f; rw [if_pos rfl, if_pos rfl, if_neg (by simp), same09 near (k + 1) hn (by omega), Option.bind_some, if_pos rfl, footbridgeref12_Same.j0, if_neg (by simp)]; exact same12_l0 n a th near ps hp hq ps.length k 0 (by omega) (by omega)
end Go.Proofs.Ytipgldfbjlhpoab.Pure
namespace Go.Proofs.Ytipgldfbjlhpoab.Pure
set_option linter.unusedVariables false
set_option linter.unusedSimpArgs false
open Go.RowKit Go.Proofs.Ytipgldfbjlhpoab.P Go.Proofs.Ytipgldfbjlhpoab.Wire Go.Proofs.Ytipgldfbjlhpoab.Sha Go.Proofs.YtipgldfbjlhpoabW.PrintWords Go.Proofs.YtipgldfbjlhpoabW.PrintLast
theorem rdB {l : List ByteArray} (i : Nat) (h : i < l.length) : rdOf ByteArray.empty l (i : Int) = l[i] := by
 unfold rdOf; rw [Int.toNat_natCast, List.getD_eq_getElem?_getD, List.getElem?_eq_getElem h]; rfl
theorem small_l2 (n a : Int) (th : Bool) (near : List Pq) (ps : List (List ByteArray)) (hp : ps.length ≤ 4) (i : Nat) (hi : i < ps.length) (hq : ps[i].length ≤ 60) (P : Prop) (K : Nat) (H : ∀ k, K ≤ k → ∃ b, footbridgelaw12_small.l1 k ((i + 1 : Nat) : Int) n a th near ps = some b ∧ (b = true → P)) : ∀ (d k j : Nat), j + d = ps[i].length → K + d + 1 ≤ k →
  ∃ b, footbridgelaw12_small.l2 k (i : Int) (j : Int) n a th near ps = some b ∧ (b = true → P ∧ ∀ m (h : m < ps[i].length), j ≤ m → (ps[i][m]).size ≤ 100) := by
 intro d
 induction d with
 | zero =>
  intro k j hj hk
  obtain ⟨k, rfl⟩ : ∃ q, k = q + 1 := ⟨k - 1, by omega⟩
  obtain ⟨b, hb, hP⟩ := H k (by omega); rw [footbridgelaw12_small.l2, if_pos (by omega), if_pos (by omega), rdL i hi, if_neg (by omega), wsuc i (by omega), hb]; exact ⟨b, rfl, fun h => ⟨hP h, fun m hm hjm => by omega⟩⟩
 | succ d ih =>
  intro k j hj hk
  obtain ⟨k, rfl⟩ : ∃ q, k = q + 1 := ⟨k - 1, by omega⟩
  have hjl : j < ps[i].length := by omega
  rw [footbridgelaw12_small.l2, if_pos (by omega), if_pos (by omega), rdL i hi, if_pos (by omega), if_pos (by omega), rdB j hjl]
  by_cases hz : ((ps[i][j]).size : Int) > 100
  · rw [if_pos hz]; exact ⟨false, rfl, fun h => by cases h⟩
  · rw [if_neg hz, wsuc j (by omega)]; obtain ⟨b, hb, hP⟩ := ih k (j + 1) (by omega) (by omega); refine ⟨b, hb, fun h => ⟨(hP h).1, fun m hm hjm => ?_⟩⟩
    by_cases e : j = m
    · subst e; omega
    · exact (hP h).2 m hm (by omega)
theorem small_l1 (n a : Int) (th : Bool) (near : List Pq) (ps : List (List ByteArray)) (hp : ps.length ≤ 4) : ∀ (d i : Nat), i + d = ps.length → ∀ k, 70 * d + 1 ≤ k →
  ∃ b, footbridgelaw12_small.l1 k (i : Int) n a th near ps = some b ∧ (b = true → ∀ m (h : m < ps.length), i ≤ m → ps[m].length ≤ 60 ∧ ∀ t ∈ ps[m], t.size ≤ 100) := by
 intro d
 induction d with
 | zero =>
  intro i hi k hk
  obtain ⟨k, rfl⟩ : ∃ q, k = q + 1 := ⟨k - 1, by omega⟩
  rw [footbridgelaw12_small.l1, if_neg (by omega)]; exact ⟨true, rfl, fun _ m hm him => by omega⟩
 | succ d ih =>
  intro i hi k hk
  obtain ⟨k, rfl⟩ : ∃ q, k = q + 1 := ⟨k - 1, by omega⟩
  have hil : i < ps.length := by omega
  rw [footbridgelaw12_small.l1, if_pos (by omega), if_pos (by omega), rdL i hil]
  by_cases hz : ((ps[i]).length : Int) > 60
  · rw [if_pos hz]; exact ⟨false, rfl, fun h => by cases h⟩
  · rw [if_neg hz]; obtain ⟨b, hb, hP⟩ := small_l2 n a th near ps hp i hil (by omega) (∀ m (h : m < ps.length), i + 1 ≤ m → ps[m].length ≤ 60 ∧ ∀ t ∈ ps[m], t.size ≤ 100) (70 * d + 1) (ih (i + 1) (by omega)) ps[i].length k 0 (by omega) (by omega); refine ⟨b, hb, fun h m hm him => ?_⟩
    by_cases e : i = m
    · subst e; refine ⟨by omega, fun t ht => ?_⟩; obtain ⟨x, hx, rfl⟩ := List.mem_iff_getElem.mp ht; exact (hP h).2 x hx (Nat.zero_le _)
    · exact (hP h).1 m hm (by omega)
theorem small_l0 (n a : Int) (th : Bool) (near : List Pq) (ps : List (List ByteArray)) (hn : near.length ≤ 4) (hp : ps.length ≤ 4) : ∀ (d k i : Nat), i + d = near.length → d + 400 ≤ k →
  ∃ b, footbridgelaw12_small.l0 k (i : Int) n a th near ps = some b ∧ (b = true → (∀ m (h : m < near.length), i ≤ m → near[m].f0.size ≤ 200 ∧ near[m].f1.size ≤ 200) ∧ ∀ m (h : m < ps.length), ps[m].length ≤ 60 ∧ ∀ t ∈ ps[m], t.size ≤ 100) := by
 intro d
 induction d with
 | zero =>
  intro k i hi hk
  obtain ⟨k, rfl⟩ : ∃ q, k = q + 1 := ⟨k - 1, by omega⟩
  obtain ⟨b, hb, hP⟩ := small_l1 n a th near ps hp ps.length 0 (by omega) k (by omega); rw [footbridgelaw12_small.l0, if_neg (by omega)]; exact ⟨b, hb, fun h => ⟨fun m hm him => by omega, fun m hm => hP h m hm (Nat.zero_le _)⟩⟩
 | succ d ih =>
  intro k i hi hk
  obtain ⟨k, rfl⟩ : ∃ q, k = q + 1 := ⟨k - 1, by omega⟩
  have hil : i < near.length := by omega
  rw [footbridgelaw12_small.l0, if_pos (by omega), if_pos (by omega), rd_mem i hil]
  by_cases h0 : ((near[i]).f0.size : Int) > 200
  · rw [if_pos h0]; exact ⟨false, rfl, fun h => by cases h⟩
  · rw [if_neg h0]
    by_cases h1 : ((near[i]).f1.size : Int) > 200
    · rw [if_pos h1]; exact ⟨false, rfl, fun h => by cases h⟩
    · rw [if_neg h1, wsuc i (by omega)]; obtain ⟨b, hb, hP⟩ := ih k (i + 1) (by omega) (by omega); refine ⟨b, hb, fun h => ⟨fun m hm him => ?_, (hP h).2⟩⟩
      by_cases e : i = m
      · subst e; omega
      · exact (hP h).1 m hm (by omega)
theorem small_f (n a : Int) (th : Bool) (near : List Pq) (ps : List (List ByteArray)) (k : Nat) (hk : 500 ≤ k) : ∃ b, footbridgelaw12_small.f k n a th near ps = some b ∧ (b = true → SmallP near ps) := by
 obtain ⟨k, rfl⟩ : ∃ q, k = q + 1 := ⟨k - 1, by omega⟩
 unfold footbridgelaw12_small.f
 by_cases h0 : (near.length : Int) > 4
 · rw [if_pos h0, footbridgelaw12_small.j0, if_pos rfl]; exact ⟨false, rfl, fun h => by cases h⟩
 · rw [if_neg h0, footbridgelaw12_small.j0]
   by_cases h1 : (ps.length : Int) > 4
   · rw [if_pos (decide_eq_true h1)]; exact ⟨false, rfl, fun h => by cases h⟩
   · rw [if_neg (by rw [decide_eq_false h1]; decide)]; obtain ⟨b, hb, hP⟩ := small_l0 n a th near ps (by omega) (by omega) near.length k 0 (by omega) (by omega); refine ⟨b, hb, fun h => ⟨by omega, by omega, fun p hp => ?_, fun p hp => ?_, fun p hp => ?_⟩⟩
     · obtain ⟨x, hx, rfl⟩ := List.mem_iff_getElem.mp hp; exact (hP h).1 x hx (Nat.zero_le _)
     · obtain ⟨x, hx, rfl⟩ := List.mem_iff_getElem.mp hp; exact ((hP h).2 x hx).1
     · obtain ⟨x, hx, rfl⟩ := List.mem_iff_getElem.mp hp; exact ((hP h).2 x hx).2
theorem side_iff (p : Pq) (key : ByteArray) (b : Bool) : sideK p key b = true ↔ ¬ ((b != Op.bytesLess p.f0.toList key.toList) = true) ∧ ¬ p.f0.toList = key.toList := by
 unfold sideK
 cases b with
 | true =>
  rw [if_pos rfl]; constructor
  · intro h; refine ⟨by rw [h]; decide, fun e => ?_⟩; rw [e, less_irrefl] at h; cases h
  · rintro ⟨h, _⟩
    cases hl : Op.bytesLess p.f0.toList key.toList with
    | true => rfl
    | false => rw [hl] at h; exact absurd rfl h
 | false =>
  rw [if_neg (by decide)]; constructor
  · intro h; refine ⟨by rw [less_asymm h]; decide, fun e => ?_⟩; rw [e, less_irrefl] at h; cases h
  · rintro ⟨h, hne⟩
    cases hl : Op.bytesLess p.f0.toList key.toList with
    | true => rw [hl] at h; exact absurd rfl h
    | false =>
     cases hg : Op.bytesLess key.toList p.f0.toList with
     | true => rfl
     | false => exact absurd (less_tri _ _ hl hg) hne
theorem from_le (n a : Int) (h0 : 0 ≤ a) (h1 : a ≤ n) : 0 ≤ fromK a ∧ fromK a ≤ a ∧ fromK a + manyK n a ≤ n ∧ manyK n a ≤ 2 ∧ 0 ≤ manyK n a ∧ (a ≤ fromK a + manyK n a) := by
 unfold manyK fromK mx
 split <;> split <;> omega
theorem plk (root key : ByteArray) (n a : Int) (th : Bool) (near : List Pq) (ps : List (List ByteArray)) (hS : SmallP near ps) (h0 : 0 ≤ a) (h1 : a ≤ n) (hn : n < 9223372036854775808) (hl : (near.length : Int) = manyK n a) (hp : (ps.length : Int) = manyK n a) : ∀ (d k j : Nat) (acc : List ByteArray), j + d = near.length → d + 300 ≤ k →
  proof_Lacks.l0 k root key (fromK a) near (near.length : Int) (j : Int) n a th near ps = some (lkM root key n a (near.drop j) (ps.drop j) (fromK a + (j : Int)) acc).1 := by
 have hf := from_le n a h0 h1; intro d
 induction d with
 | zero =>
  intro k j acc hj hk
  obtain ⟨k, rfl⟩ : ∃ q, k = q + 1 := ⟨k - 1, by omega⟩
  rw [proof_Lacks.l0, if_neg (by omega), List.drop_eq_nil_of_le (show near.length ≤ j by omega), List.drop_eq_nil_of_le (show ps.length ≤ j by omega), lkM]
  by_cases h : n > 0
  · rw [if_pos h, if_neg (by omega)]
  · rw [if_neg h, if_pos (by omega), top_f _ _ (by decide), Option.bind_some, show sumB (topT 0 ⟨#[]⟩) = sumB (topT 0 emp) from rfl, BEq.comm]
  all_goals simp
 | succ d ih =>
  intro k j acc hj hk
  obtain ⟨k, rfl⟩ : ∃ q, k = q + 1 := ⟨k - 1, by omega⟩
  have hjl : j < near.length := by omega
  have hjp : j < ps.length := by omega
  have hm := hS.hs _ (List.getElem_mem hjl); have hq1 := hS.h1 _ (List.getElem_mem hjp)
  have hq2 : ∀ t ∈ ps[j], t.size ≤ 1000 := fun t ht => by have := hS.h2 _ (List.getElem_mem hjp) t ht; omega
  have hw : wrap64 (fromK a + (j : Int)) = fromK a + (j : Int) := w64 (by omega) (by omega); have HW := Lib.hid hw; clear hw; have hnext := ih k (j + 1) (acc ++ (ledM root near[j] n (fromK a + (j : Int)) ps[j]).2) (by omega) (by omega); rw [show fromK a + ((j + 1 : Nat) : Int) = fromK a + (j : Int) + 1 by omega] at hnext; have hsd := side_iff near[j] key (decide (fromK a + (j : Int) < a)); rw [proof_Lacks.l0, if_pos (by omega), if_pos (by omega), if_pos (by omega), rd_mem j hjl, rdL j hjp, HW.out, List.drop_eq_getElem_cons hjl, List.drop_eq_getElem_cons hjp, lkM]
  by_cases hs : sideK near[j] key (decide (fromK a + (j : Int) < a)) = true
  · obtain ⟨g1, g2⟩ := hsd.mp hs; rw [if_pos hs, if_neg g1, if_neg g2, if_pos (by omega), leads_f root near[j] n (fromK a + (j : Int)) ps[j] k (by omega) (by omega) hn (by omega) hq2, Option.bind_some]
    by_cases hL : (ledM root near[j] n (fromK a + (j : Int)) ps[j]).1 = true
    · rw [if_pos hL, if_pos hL, wsuc j (by omega)]; exact hnext
    · rw [if_neg hL, if_neg hL]
  · rw [if_neg hs]
    by_cases g1 : ((decide (fromK a + (j : Int) < a)) != Op.bytesLess near[j].f0.toList key.toList) = true
    · rw [if_pos g1]
    · rw [if_neg g1]
      by_cases g2 : near[j].f0.toList = key.toList
      · rw [if_pos g2]
      · exact absurd (hsd.mpr ⟨g1, g2⟩) hs
theorem rlk (root key : ByteArray) (n a : Int) (th : Bool) (near : List Pq) (ps : List (List ByteArray)) (pl : List Int) (hS : SmallP near ps) (h0 : 0 ≤ a) (h1 : a ≤ n) (hn : n < 9223372036854775808) (hl : (near.length : Int) = manyK n a) (hp : (ps.length : Int) = manyK n a) (hpl : (pl.length : Int) = manyK n a) (hpr : ∀ j : Nat, j < pl.length → rd pl (j : Int) = fromK a + (j : Int)) : ∀ (d k j : Nat) (acc : List ByteArray), j + d = near.length → 2 * d + 300 ≤ k → acc.length ≤ 100 * j →
  footbridgeref12_Lacks.l0 k root key pl acc (j : Int) n a th near ps = some (lkM root key n a (near.drop j) (ps.drop j) (fromK a + (j : Int)) acc) := by
 have hf := from_le n a h0 h1; intro d
 induction d with
 | zero =>
  intro k j acc hj hk ha
  obtain ⟨k, rfl⟩ : ∃ q, k = q + 1 := ⟨k - 1, by omega⟩
  rw [footbridgeref12_Lacks.l0, if_neg (by omega), List.drop_eq_nil_of_le (show near.length ≤ j by omega), List.drop_eq_nil_of_le (show ps.length ≤ j by omega), lkM]
  by_cases h : n = 0
  · rw [if_pos h, if_pos h, rtop_f _ _ k (by omega) (by decide), Option.bind_some, rsum_f _ (by have := size_numE 0; rw [size_topT]; have : (⟨#[]⟩ : ByteArray).size = 0 := rfl; omega), Option.bind_some]; rfl
  · rw [if_neg h, if_neg h]
  all_goals simp
 | succ d ih =>
  intro k j acc hj hk ha
  obtain ⟨k, rfl⟩ : ∃ q, k = q + 2 := ⟨k - 2, by omega⟩
  have hjl : j < near.length := by omega
  have hjp : j < ps.length := by omega
  have hm := hS.hs _ (List.getElem_mem hjl); have hq1 := hS.h1 _ (List.getElem_mem hjp)
  have hq2 : ∀ t ∈ ps[j], t.size ≤ 1000 := fun t ht => by have := hS.h2 _ (List.getElem_mem hjp) t ht; omega
  have hlen := led_len root near[j] n (fromK a + (j : Int)) ps[j]; have hnext := ih k (j + 1) (acc ++ (ledM root near[j] n (fromK a + (j : Int)) ps[j]).2) (by omega) (by omega) (by rw [List.length_append]; omega); rw [show fromK a + ((j + 1 : Nat) : Int) = fromK a + (j : Int) + 1 by omega] at hnext
  have hj3 : ∀ x, x = (!(sideK near[j] key (decide (fromK a + (j : Int) < a)))) → footbridgeref12_Lacks.j3 (k + 1) root key pl acc (j : Int) x n a th near ps = some (lkM root key n a (near[j] :: near.drop (j + 1)) (ps[j] :: ps.drop (j + 1)) (fromK a + (j : Int)) acc) := by
   rintro x rfl; rw [footbridgeref12_Lacks.j3, lkM]
   by_cases hs : sideK near[j] key (decide (fromK a + (j : Int) < a)) = true
   · rw [if_neg (by rw [hs]; decide), if_pos hs, if_pos (by omega), if_pos (by omega), if_pos (by omega), if_pos (by omega), rd_mem j hjl, rdL j hjp, hpr j (by omega), rleads_f root near[j] n (fromK a + (j : Int)) ps[j] k (by omega) (by omega) hn (by omega) hq2, Option.bind_some]
     by_cases hL : (ledM root near[j] n (fromK a + (j : Int)) ps[j]).1 = true
     · rw [if_pos hL, if_pos hL, if_pos (by omega), wsuc j (by omega)]; exact hnext
     · rw [if_neg hL, if_neg hL]
   · rw [if_pos (by rw [Bool.eq_false_iff.mpr hs]; rfl), if_neg hs]
  rw [footbridgeref12_Lacks.l0, if_pos (by omega), if_pos (by omega), hpr j (by omega), List.drop_eq_getElem_cons hjl, List.drop_eq_getElem_cons hjp, rd_mem j hjl]
  by_cases hb : fromK a + (j : Int) < a
  · rw [if_pos hb, if_pos (by omega)]
    by_cases g : Op.bytesLess near[j].f0.toList key.toList = true
    · rw [if_pos g, if_pos hb]; exact hj3 _ (by rw [decide_eq_true hb, sideK, if_pos rfl, g]; rfl)
    · rw [if_neg g]; exact hj3 _ (by rw [decide_eq_true hb, sideK, if_pos rfl, Bool.eq_false_iff.mpr g]; rfl)
  · rw [if_neg hb, if_neg hb, if_pos (by omega)]; exact hj3 _ (by rw [decide_eq_false hb, sideK, if_neg (by decide)])
theorem places_f (n a : Int) (th : Bool) (near : List Pq) (ps : List (List ByteArray)) (h0 : 0 ≤ a) (h1 : a ≤ n) (hn : n < 9223372036854775808) : ∃ pl, footbridgeref12_places.f n a th near ps = some pl ∧ (pl.length : Int) = manyK n a ∧ ∀ j : Nat, j < pl.length → rd pl (j : Int) = fromK a + (j : Int) := by
 have hw : wrap64 (a - 1) = a - 1 := by unfold wrap64; omega
 have HW := Lib.hid hw; clear hw; unfold footbridgeref12_places.f manyK fromK mx
 by_cases ha : a > 0
 · rw [if_pos ha, if_pos (by decide), Option.bind_some, HW.out]
   by_cases hb : a < n
   · rw [if_pos hb, if_pos hb, if_pos (by simp)]; refine ⟨_, rfl, ?_, fun j hj => ?_⟩
     · split <;> simp <;> omega
     · match j, hj with
       | 0, _ => show a - 1 = _; split <;> omega
       | 1, _ => show a = _; split <;> omega
       | j + 2, hj => simp at hj; omega
   · rw [if_neg hb, if_neg hb]; refine ⟨_, rfl, ?_, fun j hj => ?_⟩
     · split <;> simp <;> omega
     · match j, hj with
       | 0, _ => show a - 1 = _; split <;> omega
       | j + 1, hj => simp at hj
 · rw [if_neg ha]
   by_cases hb : a < n
   · rw [if_pos hb, if_pos hb, if_pos (by simp)]; refine ⟨_, rfl, ?_, fun j hj => ?_⟩
     · split <;> simp <;> omega
     · match j, hj with
       | 0, _ => show a = _; split <;> omega
       | j + 1, hj => simp at hj
   · rw [if_neg hb, if_neg hb]; refine ⟨_, rfl, ?_, fun j hj => ?_⟩
     · split <;> simp <;> omega
     · simp at hj
theorem lacks_f (root key : ByteArray) (n a : Int) (th : Bool) (near : List Pq) (ps : List (List ByteArray)) (k : Nat) (hk : 400 ≤ k) (hn : n < 9223372036854775808) (ha : -9223372036854775808 ≤ a) (hS : SmallP near ps) : proof_Lacks.f k root key n a th near ps = some (lksM root key n a th near ps).1 ∧ footbridgeref12_Lacks.f k root key n a th near ps = some (lksM root key n a th near ps) := by
 obtain ⟨k, rfl⟩ : ∃ q, k = q + 2 := ⟨k - 2, by omega⟩
 have hpt : proof_Lacks.j0 (k + 2) root key true n a th near ps = some false := by rw [proof_Lacks.j0, if_pos rfl]
 have hrt : footbridgeref12_Lacks.j0 (k + 2) root key true n a th near ps = some (false, []) := by rw [footbridgeref12_Lacks.j0, if_pos rfl]
 by_cases hbad : th = true ∨ a < 0 ∨ n < a
 · have e : lksM root key n a th near ps = (false, []) := if_pos hbad; rw [e]; unfold proof_Lacks.f footbridgeref12_Lacks.f
   by_cases t0 : th = true
   · rw [if_pos t0, if_pos t0]; exact ⟨hpt, hrt⟩
   · by_cases t1 : a < 0
     · rw [if_neg t0, if_neg t0, if_pos t1, if_pos t1]; exact ⟨hpt, hrt⟩
     · have t2 : a > n := by rcases hbad with h | h | h; exact absurd h t0; exact absurd h t1; exact h
       rw [if_neg t0, if_neg t0, if_neg t1, if_neg t1, if_pos t2, decide_eq_true t2]; exact ⟨hpt, hrt⟩
 · have t0 : ¬ th = true := fun h => hbad (.inl h)
   have t1 : ¬ a < 0 := fun h => hbad (.inr (.inl h))
   have t2 : ¬ a > n := fun h => hbad (.inr (.inr h))
   have hf := from_le n a (by omega) (by omega)
   have hx7 : mx 0 (wrap64 (a - 1)) = fromK a := by
    rw [show wrap64 (a - 1) = a - 1 by unfold wrap64; omega]; rfl
   obtain ⟨pl, hpl, hpn, hpr⟩ := places_f n a th near ps (by omega) (by omega) hn
   have e : lksM root key n a th near ps = if (near.length : Int) = manyK n a ∧ (ps.length : Int) = manyK n a then lkM root key n a near ps (fromK a) [] else (false, []) := if_neg hbad
   rw [e]; constructor
   · unfold proof_Lacks.f; rw [if_neg t0, if_neg t1, if_neg t2, proof_Lacks.j0, hx7]; clear hx7
     by_cases hne : (ps.length : Int) = (near.length : Int)
     · rw [if_neg (by rw [hne]; simp)]
       have hj1 : ∀ x8, x8 = fromK a + manyK n a → proof_Lacks.j1 (k + 1) root key (fromK a) x8 n a th near ps = some (if (near.length : Int) = manyK n a ∧ (ps.length : Int) = manyK n a then lkM root key n a near ps (fromK a) [] else (false, [])).1 := by
        rintro x8 rfl
        have hw : wrap64 (fromK a + manyK n a - fromK a) = manyK n a := by rw [w64 (by omega) (by omega)]; omega
        rw [proof_Lacks.j1, hw]; clear hw
        by_cases hl : (near.length : Int) = manyK n a
        · have h := plk root key n a th near ps hS (by omega) (by omega) hn hl (by omega) near.length k 0 [] (by omega) (by omega); rw [if_pos hl, if_pos ⟨hl, by omega⟩]; rw [show fromK a + ((0 : Nat) : Int) = fromK a by omega] at h; exact h
        · rw [if_neg hl, if_neg (fun h => hl h.1)]
       by_cases hlt : a < n
       · have hw : wrap64 (a + 1) = a + 1 := w64 (by omega) (by omega); rw [if_pos hlt, hw]; clear hw; exact hj1 _ (by unfold manyK; rw [if_pos hlt]; omega)
       · rw [if_neg hlt]; exact hj1 _ (by unfold manyK; rw [if_neg hlt]; omega)
     · rw [if_pos (by rw [bne_iff_ne]; exact hne), if_neg (fun h => hne (h.2.trans h.1.symm))]
   · clear hx7; unfold footbridgeref12_Lacks.f; rw [if_neg t0, if_neg t1, decide_eq_false t2, footbridgeref12_Lacks.j0, if_neg (by decide), hpl, Option.bind_some]
     have hj1 : footbridgeref12_Lacks.j1 (k + 1) root key pl true n a th near ps = some (false, []) := by rw [footbridgeref12_Lacks.j1, if_pos rfl]
     by_cases hl : (near.length : Int) = manyK n a
     · rw [if_pos (by omega)]
       by_cases hp : (ps.length : Int) = manyK n a
       · have h := rlk root key n a th near ps pl hS (by omega) (by omega) hn hl hp hpn hpr near.length k 0 [] (by omega) (by omega) (Nat.zero_le _); rw [footbridgeref12_Lacks.j1, if_neg (by rw [hp, hpn]; simp), if_pos ⟨hl, hp⟩]; rw [show fromK a + ((0 : Nat) : Int) = fromK a by omega] at h; exact h
       · have : ((ps.length : Int) != (pl.length : Int)) = true := by rw [bne_iff_ne, hpn]; exact hp
         rw [this, hj1, if_neg (fun h => hp h.2)]
     · rw [if_neg (by omega), hj1, if_neg (fun h => hl h.1)]
end Go.Proofs.Ytipgldfbjlhpoab.Pure
