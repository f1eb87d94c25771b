/- The plain side of MacKeys: bytes 0 behind a key change nothing. -/
import Derived.Test.YtipgldfbjlhpoaaPureMac
import Derived.Test.YtipgldfbjlhpoaaPLMacKeys
namespace Go.Proofs.Ytipgldfbjlhpoaa.Pure
set_option linter.unusedVariables false
set_option linter.unusedSimpArgs false
open Go.RowKit Go.Proofs.Ytipgldfbjlhpoaa.P Go.Proofs.Ytipgldfbjlhpoaa.Sha Go.Proofs.YtipgldfbjlhpoaaW.PrintWords Go.Proofs.YtipgldfbjlhpoaaW.PrintLast

theorem macC_more (m : ByteArray) (i : Nat) : macC (m ++ ⟨#[0]⟩) i = macC m i := by
  have hz : (m ++ (⟨#[0]⟩ : ByteArray)).size = m.size + 1 := ByteArray.size_append
  unfold macC
  rw [hz]
  by_cases h : i < m.size
  · rw [if_pos h, if_pos (by omega)]
    unfold bt
    rw [dif_pos (by omega), dif_pos (by omega)]
    congr 2
    exact ByteArray.getElem_append_left _
  · rw [if_neg h]
    by_cases h2 : i < m.size + 1
    · rw [if_pos h2]
      have e : i = m.size := by omega
      subst e
      unfold bt
      rw [dif_pos (by omega)]
      have : (m ++ (⟨#[0]⟩ : ByteArray))[((m.size : Nat) : Int).toNat]'(by omega) = 0 := by
        rw [ByteArray.getElem_append_right (by omega)]
        simp
        rfl
      rw [this]
      rfl
    · rw [if_neg h2]
theorem macB_same (m key s : ByteArray) (h1 : m.size ≤ 64) (h2 : key.size ≤ 64) (h : ∀ i, macC m i = macC key i) : macB m s = macB key s := by
  unfold macB Sha.keyOf
  rw [if_neg (by omega), if_neg (by omega)]
  have e : ∀ b, mixS m b = mixS key b := by
    intro b; unfold mixS mixTo; congr 1; apply List.map_congr_left; intro j _; rw [h]
  rw [e, e]
theorem keys_l0 (key s : ByteArray) (n : Int) (hk : key.size ≤ 64) (hs : s.size ≤ 1000) : ∀ (d k : Nat) (m : ByteArray), m.size + d = 64 → d + 4 ≤ k → (∀ i, macC m i = macC key i) →
    footbridgelaw05_MacKeys.l0 k key s n m = some true := by
  intro d
  induction d with
  | zero =>
    intro k m hm hk2 h
    obtain ⟨k, rfl⟩ : ∃ q, k = q + 1 := ⟨k - 1, by omega⟩
    rw [footbridgelaw05_MacKeys.l0, if_neg (by omega), mac_f _ _ (by omega) (by omega), mac_f _ _ (by omega) (by omega), macB_same m key s (by omega) hk h, Option.bind_some, Option.bind_some, if_pos rfl, awake05 k (by omega)]
    rfl
  | succ d ih =>
    intro k m hm hk2 h
    obtain ⟨k, rfl⟩ : ∃ q, k = q + 1 := ⟨k - 1, by omega⟩
    rw [footbridgelaw05_MacKeys.l0, if_pos (by omega)]
    by_cases hc : (m.size : Int) < wrap64 n
    · rw [if_pos hc, if_pos (by omega)]
      exact ih k _ (by rw [ByteArray.size_append]; change m.size + 1 + d = 64; omega) (by omega) (fun i => by rw [macC_more, h])
    · rw [if_neg hc, mac_f _ _ (by omega) (by omega), mac_f _ _ (by omega) (by omega), macB_same m key s (by omega) hk h, Option.bind_some, Option.bind_some, if_pos rfl, awake05 k (by omega)]
      rfl
theorem keys_j0 (key s : ByteArray) (n : Int) (c : Bool) (hc : c = false → key.size ≤ 64 ∧ s.size ≤ 1000) : footbridgelaw05_MacKeys.j0 100 key s n c = some true := by
  rw [footbridgelaw05_MacKeys.j0]
  cases c with
  | true => rw [if_pos rfl, awake05 99 (by omega)]; rfl
  | false =>
    obtain ⟨h1, h2⟩ := hc rfl
    rw [if_neg (by simp)]
    exact keys_l0 key s n h1 h2 (64 - key.size) 99 key (by omega) (by omega) (fun _ => rfl)
theorem MacKeys : footbridgelaw05_MacKeys.Pure := by
  intro key s n _ _ _
  refine ⟨100, ?_⟩
  unfold footbridgelaw05_MacKeys.f
  by_cases h : (key.size : Int) > 64
  · rw [if_pos h]; exact keys_j0 _ _ _ _ (fun h => by cases h)
  · rw [if_neg h]
    refine keys_j0 _ _ _ _ (fun h2 => ?_)
    have := of_decide_eq_false h2
    omega
end Go.Proofs.Ytipgldfbjlhpoaa.Pure
