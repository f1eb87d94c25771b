/- The plain side of layer 51: lists that are not too great; lists that are the same; changes that may be. -/
import Derived.Test.YtipgldfbjlhpoabPureBack
import Derived.Test.YtipgldfbjlhpoabHDPut
import Derived.Test.YtipgldfbjlhpoabPL51
namespace Go.Proofs.Ytipgldfbjlhpoab.Pure
set_option linter.unusedVariables false
set_option linter.unusedSimpArgs false
open Go.RowKit Go.Proofs.Ytipgldfbjlhpoab.P Go.Proofs.Ytipgldfbjlhpoab.Wire Go.Proofs.Ytipgldfbjlhpoab.Sha Go.Proofs.YtipgldfbjlhpoabW.PrintWords Go.Proofs.YtipgldfbjlhpoabW.PrintLast
theorem rdC (l : List S62) (i : Nat) (h : i < l.length) : rd_T62 l (i : Int) = l[i] := by
  simp [rd_T62, List.getD, h]
theorem rdP (l : List S86) (i : Nat) (h : i < l.length) : rd_T86 l (i : Int) = l[i] := by
  simp [rd_T86, List.getD, h]
theorem w1 (i n : Nat) (hi : i ≤ n) (hn : n ≤ 1000000000000000) : wrap64 ((i : Int) + 1) = ((i + 1 : Nat) : Int) := by
  rw [w64 (by omega) (by omega)]
  omega
theorem few_l0 (l : List S86) (hl : l.length ≤ 1000000) : ∀ (d k i : Nat), i + d = l.length → d < k →
    ∃ b, footbridgelaw51_few.l0 k l (i : Int) = some b ∧ (b = true → ∀ j (h : j < l.length), i ≤ j → l[j].f0.size ≤ 200 ∧ l[j].f1.size ≤ 500) := by
  intro d
  induction d with
  | zero =>
    intro k i hi hk
    obtain ⟨k, rfl⟩ : ∃ q, k = q + 1 := ⟨k - 1, by omega⟩
    rw [footbridgelaw51_few.l0, if_neg (by omega)]
    exact ⟨_, rfl, fun _ j h1 h2 => absurd h1 (by omega)⟩
  | succ d ih =>
    intro k i hi hk
    obtain ⟨k, rfl⟩ : ∃ q, k = q + 1 := ⟨k - 1, by omega⟩
    have hil : i < l.length := by omega
    rw [footbridgelaw51_few.l0, if_pos (by omega), if_pos (by omega), rdP l i hil, w1 i l.length (by omega) (by omega)]
    by_cases h0 : (l[i].f0.size : Int) > 200
    · rw [if_pos h0]
      exact ⟨_, rfl, fun h => absurd h (by decide)⟩
    · rw [if_neg h0]
      by_cases h1 : (l[i].f1.size : Int) > 500
      · rw [if_pos h1]
        exact ⟨_, rfl, fun h => absurd h (by decide)⟩
      · rw [if_neg h1]
        obtain ⟨b, e, hb⟩ := ih k (i + 1) (by omega) (by omega)
        refine ⟨b, e, fun h j hj hij => ?_⟩
        by_cases hji : j = i
        · subst hji
          exact ⟨by omega, by omega⟩
        · exact hb h j hj (by omega)
theorem few51 (l : List S86) (k : Nat) (hk : 100 ≤ k) : ∃ b, footbridgelaw51_few.f k l = some b ∧ (b = true → l.length ≤ 40 ∧ ∀ p ∈ l, p.f0.size ≤ 200 ∧ p.f1.size ≤ 500) := by
  unfold footbridgelaw51_few.f
  by_cases hl : (l.length : Int) > 40
  · rw [if_pos hl]
    exact ⟨_, rfl, fun h => absurd h (by decide)⟩
  · rw [if_neg hl]
    obtain ⟨b, e, hb⟩ := few_l0 l (by omega) l.length k 0 (by omega) (by omega)
    refine ⟨b, e, fun h => ⟨by omega, fun p hp => ?_⟩⟩
    obtain ⟨j, hj, rfl⟩ := List.getElem_of_mem hp
    exact hb h j hj (by omega)
theorem some_l0 (l : List S62) (hl : l.length ≤ 1000000) : ∀ (d k i : Nat), i + d = l.length → d < k →
    ∃ b, footbridgelaw51_some.l0 k l (i : Int) = some b ∧ (b = true → ∀ j (h : j < l.length), i ≤ j → l[j].f0.size ≤ 200 ∧ l[j].f1.size ≤ 500) := by
  intro d
  induction d with
  | zero =>
    intro k i hi hk
    obtain ⟨k, rfl⟩ : ∃ q, k = q + 1 := ⟨k - 1, by omega⟩
    rw [footbridgelaw51_some.l0, if_neg (by omega)]
    exact ⟨_, rfl, fun _ j h1 h2 => absurd h1 (by omega)⟩
  | succ d ih =>
    intro k i hi hk
    obtain ⟨k, rfl⟩ : ∃ q, k = q + 1 := ⟨k - 1, by omega⟩
    have hil : i < l.length := by omega
    rw [footbridgelaw51_some.l0, if_pos (by omega), if_pos (by omega), rdC l i hil, w1 i l.length (by omega) (by omega)]
    by_cases h0 : (l[i].f0.size : Int) > 200
    · rw [if_pos h0]
      exact ⟨_, rfl, fun h => absurd h (by decide)⟩
    · rw [if_neg h0]
      by_cases h1 : (l[i].f1.size : Int) > 500
      · rw [if_pos h1]
        exact ⟨_, rfl, fun h => absurd h (by decide)⟩
      · rw [if_neg h1]
        obtain ⟨b, e, hb⟩ := ih k (i + 1) (by omega) (by omega)
        refine ⟨b, e, fun h j hj hij => ?_⟩
        by_cases hji : j = i
        · subst hji
          exact ⟨by omega, by omega⟩
        · exact hb h j hj (by omega)
theorem some51 (l : List S62) (k : Nat) (hk : 400 ≤ k) : ∃ b, footbridgelaw51_some.f k l = some b ∧ (b = true → l.length ≤ 300 ∧ ∀ p ∈ l, p.f0.size ≤ 200 ∧ p.f1.size ≤ 500) := by
  unfold footbridgelaw51_some.f
  by_cases hl : (l.length : Int) > 300
  · rw [if_pos hl]
    exact ⟨_, rfl, fun h => absurd h (by decide)⟩
  · rw [if_neg hl]
    obtain ⟨b, e, hb⟩ := some_l0 l (by omega) l.length k 0 (by omega) (by omega)
    refine ⟨b, e, fun h => ⟨by omega, fun p hp => ?_⟩⟩
    obtain ⟨j, hj, rfl⟩ := List.getElem_of_mem hp
    exact hb h j hj (by omega)
/-- What one change is laid as. -/
def encC (c : S62) : ByteArray := enc1 c.f0 ++ (if c.f2 = true then numB 1 else numB 0 ++ enc1 c.f1)
def encCs : List S62 → ByteArray
  | [] => ⟨#[]⟩
  | c :: l => encC c ++ encCs l
theorem ctext_f (s : ByteArray) (hs : s.size ≤ 65536) : wire_Text.f s = some (enc1 s, 0) := by
  unfold wire_Text.f
  rw [if_neg (by omega), num_f _ (by omega), Option.bind_some, if_pos (by have := size_numB s.size (by omega); simp only; omega)]
  rfl
theorem cenc1_le (s : ByteArray) (hs : s.size ≤ 65536) : (enc1 s).size ≤ s.size + 9 := by
  rw [size_enc1]
  have := size_numB s.size (by omega)
  omega
theorem encC_le (c : S62) (h0 : c.f0.size ≤ 500) (h1 : c.f1.size ≤ 500) : (encC c).size ≤ 1100 := by
  have a := cenc1_le c.f0 (by omega)
  have b := cenc1_le c.f1 (by omega)
  have d := size_numB 0 (by omega)
  have e := size_numB 1 (by omega)
  unfold encC
  cases c.f2 with
  | true => rw [if_pos rfl, ByteArray.size_append]; omega
  | false => rw [if_neg (by decide), ByteArray.size_append, ByteArray.size_append]; omega
theorem one_ok (c : S62) (h0 : c.f0.size ≤ 500) (h1 : c.f1.size ≤ 500) : oneM c = some (encC c, 0) := by
  have a := cenc1_le c.f0 (by omega)
  have b := cenc1_le c.f1 (by omega)
  have d := size_numB 0 (by omega)
  have e := size_numB 1 (by omega)
  have n0 : wire_Num.f 0 = some (numB 0, 0) := num_f 0 (by omega)
  have n1 : wire_Num.f 1 = some (numB 1, 0) := num_f 1 (by omega)
  unfold oneM diff_one.f encC
  rw [ctext_f _ (by omega), Option.bind_some, ctext_f _ (by omega), Option.bind_some, if_pos rfl]
  dsimp only
  rw [diff_one.j0, if_neg (show ¬ (((0 : Int) != 0) = true) by decide)]
  cases c.f2 with
  | true =>
    rw [if_pos rfl, if_pos rfl, n1, Option.bind_some, if_pos (by simp only; omega), if_pos (by simp only [ByteArray.size_append]; omega)]
    exact congrArg (fun x => some (x, (0 : Int))) ByteArray.append_empty
  | false =>
    rw [if_neg (by decide), if_neg (by decide), n0, Option.bind_some, if_pos (by simp only; omega), if_pos (by simp only [ByteArray.size_append]; omega), ByteArray.append_assoc]
theorem encCs_le : ∀ (l : List S62), (∀ p ∈ l, p.f0.size ≤ 200 ∧ p.f1.size ≤ 500) → (encCs l).size ≤ 1100 * l.length := by
  intro l
  induction l with
  | nil => intro _; exact Nat.zero_le _
  | cons c l ih =>
    intro h
    have h1 := ih (fun p hp => h p (by simp [hp]))
    have h2 := h c (by simp)
    have h3 := encC_le c (by omega) (by omega)
    rw [encCs, ByteArray.size_append, List.length_cons]
    omega
theorem putM_is : ∀ (l : List S62) (o : ByteArray), (∀ p ∈ l, p.f0.size ≤ 200 ∧ p.f1.size ≤ 500) → o.size + 1100 * l.length ≤ 100000000000000 → putM l o.data.toList = some ((o ++ encCs l).data.toList, 0) := by
  intro l
  induction l with
  | nil =>
    intro o _ _
    rw [putM, encCs]
    simp
  | cons c l ih =>
    intro o h ho
    have h2 := h c (by simp)
    have h3 := encC_le c (by omega) (by omega)
    rw [List.length_cons] at ho
    rw [putM, one_ok c (by omega) (by omega), Option.bind_some, if_pos rfl]
    have hsz : o.data.toList.length = o.size := by simp
    rw [if_pos (by rw [hsz]; simp only; omega)]
    have he : o.data.toList ++ (encC c).data.toList = (o ++ encC c).data.toList := by simp
    simp only
    rw [he, ih (o ++ encC c) (fun p hp => h p (by simp [hp])) (by rw [ByteArray.size_append]; omega), encCs, ByteArray.append_assoc]
def fineM (l : List S62) : Bool := risC l (l.length - 1) && cleanC l l.length
theorem put_is (l : List S62) (hl : l.length ≤ 100000) (h : ∀ p ∈ l, p.f0.size ≤ 200 ∧ p.f1.size ≤ 500) :
    diff_Put.f l = some (if fineM l = true then (if 256 < l.length then (⟨#[]⟩, 4) else (numB l.length ++ encCs l, 0)) else (⟨#[]⟩, 6)) := by
  unfold diff_Put.f diff_fine.f
  rw [Option.bind_some]
  change (if fineM l = true then _ else _) = _
  by_cases hf : fineM l = true
  · rw [if_pos hf, if_pos hf]
    by_cases h256 : 256 < l.length
    · rw [if_pos h256, if_pos h256]
    · rw [if_neg h256, if_neg h256, num_f _ (by omega), Option.bind_some]
      have hz := size_numB l.length (by omega)
      rw [if_pos (by simp only; omega)]
      simp only
      rw [putM_is l _ h (by omega)]
      rfl
  · rw [if_neg hf, if_neg hf]
end Go.Proofs.Ytipgldfbjlhpoab.Pure
