/- The plain side of layer 51: the document's fine, Put, Same and Read. -/
import Derived.Test.YtipgldfbjlhpoabPureDiff1
import Derived.Test.YtipgldfbjlhpoabPR51P
import Derived.Test.YtipgldfbjlhpoabPR51S
namespace Go.Proofs.Ytipgldfbjlhpoab.Pure
set_option linter.unusedVariables false
set_option linter.unusedSimpArgs false
open Go.RowKit Go.Proofs.Ytipgldfbjlhpoab.P Go.Proofs.Ytipgldfbjlhpoab.Wire Go.Proofs.Ytipgldfbjlhpoab.Sha Go.Proofs.YtipgldfbjlhpoabW.PrintWords Go.Proofs.YtipgldfbjlhpoabW.PrintLast
theorem empty_is (s : ByteArray) : s.toList.isEmpty = decide (s.toList = ([] : List UInt8)) := by
  cases s.toList with
  | nil => rfl
  | cons a l => rfl
theorem rfine_l0 (l : List S62) (hl : l.length ≤ 1000000) : ∀ (d k i : Nat), i + d = l.length → d < k → risC l (i - 1) = true → cleanC l i = true →
    footbridgeref51_fine.l0 k l (i : Int) = some (fineM l) := by
  intro d
  induction d with
  | zero =>
    intro k i hi hk h1 h2
    obtain ⟨k, rfl⟩ : ∃ q, k = q + 1 := ⟨k - 1, by omega⟩
    obtain rfl : i = l.length := by omega
    rw [footbridgeref51_fine.l0, if_neg (by omega), fineM, h1, h2]
    rfl
  | succ d ih =>
    intro k i hi hk h1 h2
    obtain ⟨k, rfl⟩ : ∃ q, k = q + 1 := ⟨k - 1, by omega⟩
    have hil : i < l.length := by omega
    have hclean : (if (rd_T62 l (i : Int)).f2 = true then (if ((rd_T62 l (i : Int)).f1).toList = ([] : List UInt8) then (footbridgeref51_fine.l0 k l (wrap64 ((i : Int) + 1))) else (some false)) else (footbridgeref51_fine.l0 k l (wrap64 ((i : Int) + 1)))) = (if badC (rd_T62 l (i : Int)) = true then some false else footbridgeref51_fine.l0 k l (wrap64 ((i : Int) + 1))) := by
      unfold badC
      rw [empty_is]
      cases (rd_T62 l (i : Int)).f2 with
      | false => rfl
      | true =>
        rw [if_pos rfl, Bool.true_and]
        by_cases he : (rd_T62 l (i : Int)).f1.toList = ([] : List UInt8)
        · rw [if_pos he, decide_eq_true he]
          rfl
        · rw [if_neg he, decide_eq_false he]
          rfl
    have hrest : (risC l i = true) → (if badC (rd_T62 l (i : Int)) = true then some false else footbridgeref51_fine.l0 k l (wrap64 ((i : Int) + 1))) = some (fineM l) := by
      intro hr
      cases hb : badC (rd_T62 l (i : Int)) with
      | true =>
        rw [if_pos rfl, fineM, cleanC_no l hb hil, Bool.and_false]
      | false =>
        rw [if_neg (by decide), w1 i l.length (by omega) (by omega)]
        exact ih k (i + 1) (by omega) (by omega) hr (by rw [cleanC_succ, h2, hb]; rfl)
    rw [footbridgeref51_fine.l0, if_pos (by omega)]
    by_cases h0 : i = 0
    · subst h0
      rw [if_neg (by omega), if_pos (by omega), hclean]
      exact hrest rfl
    · obtain ⟨j, rfl⟩ : ∃ j, i = j + 1 := ⟨i - 1, by omega⟩
      have hw : wrap64 (((j + 1 : Nat) : Int) - 1) = (j : Int) := by
        rw [w64 (by omega) (by omega)]
        omega
      rw [if_pos (by omega), hw, if_pos (by omega), if_pos (by omega), if_pos (by omega)]
      by_cases hless : Op.bytesLess ((rd_T62 l (j : Int)).f0.toList) ((rd_T62 l ((j + 1 : Nat) : Int)).f0.toList) = true
      · rw [if_pos hless, hclean]
        exact hrest (by rw [risC_succ]; rw [Nat.add_sub_cancel] at h1; rw [h1]; exact hless)
      · rw [if_neg hless, fineM, risC_no l (m := j) (n := l.length - 1) (Bool.eq_false_iff.mpr hless) (by omega), Bool.false_and]
theorem rfine_eq (l : List S62) (k : Nat) (hl : l.length ≤ 1000000) (hk : l.length < k) : footbridgeref51_fine.f k l = some (fineM l) := by
  unfold footbridgeref51_fine.f
  exact rfine_l0 l hl l.length k 0 (by omega) hk rfl rfl
theorem rput_l0 (l : List S62) (hl : l.length ≤ 1000000) (h : ∀ p ∈ l, p.f0.size ≤ 200 ∧ p.f1.size ≤ 500) : ∀ (d k i : Nat) (o : ByteArray), i + d = l.length → 2 * d + 20 ≤ k → o.size + 1100 * d ≤ 100000000000000 →
    footbridgeref51_Put.l0 k l o (i : Int) = some (o ++ encCs (l.drop i), 0) := by
  intro d
  induction d with
  | zero =>
    intro k i o hi hk ho
    obtain ⟨k, rfl⟩ : ∃ q, k = q + 1 := ⟨k - 1, by omega⟩
    rw [footbridgeref51_Put.l0, if_neg (by omega), List.drop_eq_nil_of_le (by omega), encCs]
    exact congrArg (fun x => some (x, (0 : Int))) ByteArray.append_empty.symm
  | succ d ih =>
    intro k i o hi hk ho
    obtain ⟨k, rfl⟩ : ∃ q, k = q + 2 := ⟨k - 2, by omega⟩
    have hil : i < l.length := by omega
    have hp := h l[i] (List.getElem_mem hil)
    have hle := encC_le l[i] (by omega) (by omega)
    have n0 : footbridgeref14_Num.f k 0 = some (numB 0) := by
      unfold footbridgeref14_Num.f
      rw [rlay_f 0 k (by omega), show wire_Num.f 0 = some (numB 0, 0) from num_f 0 (by omega)]
      rfl
    have n1 : footbridgeref14_Num.f k 1 = some (numB 1) := by
      unfold footbridgeref14_Num.f
      rw [rlay_f 1 k (by omega), show wire_Num.f 1 = some (numB 1, 0) from num_f 1 (by omega)]
      rfl
    rw [footbridgeref51_Put.l0, if_pos (by omega), if_pos (by omega), rdC l i hil, lay_text _ _ (by omega), ctext_f _ (by omega), Option.bind_some, lay_text _ _ (by omega), ctext_f _ (by omega), Option.bind_some, if_pos rfl]
    dsimp only
    rw [footbridgeref51_Put.j1, if_neg (show ¬ (((0 : Int) != 0) = true) by decide), if_pos (by omega), if_pos (by omega), rdC l i hil, w1 i l.length (by omega) (by omega), List.drop_eq_getElem_cons hil, encCs]
    generalize l[i] = c at hp hle ⊢
    unfold encC at hle ⊢
    cases hg : c.f2 with
    | true =>
      rw [hg, if_pos rfl, ByteArray.size_append] at hle
      rw [if_pos rfl, if_pos rfl, if_pos (by omega), n1, Option.bind_some, if_pos (by rw [ByteArray.size_append]; omega), ih k (i + 1) _ (by omega) (by omega) (by rw [ByteArray.size_append, ByteArray.size_append]; omega)]
      simp only [ByteArray.append_assoc]
    | false =>
      rw [hg, if_neg (by decide), ByteArray.size_append, ByteArray.size_append] at hle
      simp only [Bool.false_eq_true, ↓reduceIte]
      rw [if_pos (by omega), n0, Option.bind_some, if_pos (by rw [ByteArray.size_append]; omega), if_pos (by rw [ByteArray.size_append, ByteArray.size_append]; omega), ih k (i + 1) _ (by omega) (by omega) (by rw [ByteArray.size_append, ByteArray.size_append, ByteArray.size_append]; omega)]
      simp only [ByteArray.append_assoc]
theorem rput_is (l : List S62) (k : Nat) (hk : 2 * l.length + 30 ≤ k) (hl : l.length ≤ 100000) (h : ∀ p ∈ l, p.f0.size ≤ 200 ∧ p.f1.size ≤ 500) :
    footbridgeref51_Put.f k l = some (if fineM l = true then (if 256 < l.length then (⟨#[]⟩, 4) else (numB l.length ++ encCs l, 0)) else (⟨#[]⟩, 6)) := by
  unfold footbridgeref51_Put.f
  rw [rfine_eq l k (by omega) (by omega), Option.bind_some]
  by_cases hf : fineM l = true
  · rw [if_pos hf, if_pos hf]
    by_cases h256 : 256 < l.length
    · rw [if_pos h256, if_pos (by omega)]
    · have hz := size_numB l.length (by omega)
      rw [if_neg h256, if_neg (by omega)]
      unfold footbridgeref14_Num.f
      rw [rlay_f _ k (by omega), num_f _ (by omega), Option.bind_some, Option.bind_some]
      exact rput_l0 l (by omega) h l.length k 0 _ (by omega) (by omega) (by simp only; omega)
  · rw [if_neg hf, if_neg hf]
theorem same51_l0 (l : List S62) (hl : l.length ≤ 1000000) : ∀ (d k i : Nat), i + d = l.length → d < k → footbridgeref51_Same.l0 k l l (i : Int) = some true := by
  intro d
  induction d with
  | zero =>
    intro k i hi hk
    obtain ⟨k, rfl⟩ : ∃ q, k = q + 1 := ⟨k - 1, by omega⟩
    rw [footbridgeref51_Same.l0, if_neg (by omega)]
  | succ d ih =>
    intro k i hi hk
    obtain ⟨k, rfl⟩ : ∃ q, k = q + 1 := ⟨k - 1, by omega⟩
    rw [footbridgeref51_Same.l0, if_pos (by omega), if_pos (by omega), if_pos (by omega), if_neg (by simp), w1 i l.length (by omega) (by omega)]
    exact ih k (i + 1) (by omega) (by omega)
theorem same51 (l : List S62) (k : Nat) (hl : l.length ≤ 1000000) (hk : l.length < k) : footbridgeref51_Same.f k l l = some true := by
  unfold footbridgeref51_Same.f
  rw [if_pos rfl]
  exact same51_l0 l hl l.length k 0 (by omega) hk
end Go.Proofs.Ytipgldfbjlhpoab.Pure
