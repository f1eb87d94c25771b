/- The plain side of WireReads. -/
import Derived.Test.YtipgldfbjlhpoaaPureWire2
import Derived.Test.YtipgldfbjlhpoaaPLWireReads
namespace Go.Proofs.Ytipgldfbjlhpoaa.Pure
set_option linter.unusedVariables false
set_option linter.unusedSimpArgs false
open Go.RowKit Go.Proofs.Ytipgldfbjlhpoaa.P Go.Proofs.Ytipgldfbjlhpoaa.Wire Go.Proofs.YtipgldfbjlhpoaaW.PrintWords Go.Proofs.YtipgldfbjlhpoaaW.PrintLast

theorem reads_l0 (kinds : List Int) (hl : kinds.length ≤ 60) : ∀ (d k i : Nat) (s : ByteArray) (e : Int), i + d = kinds.length → 2 * d + 400 ≤ k → s.size ≤ 100000 →
    footbridgelaw01_WireReads.l0 k kinds (i : Int) s e s e = some true := by
  intro d
  induction d with
  | zero =>
    intro k i s e hi hk hs
    obtain ⟨k, rfl⟩ : ∃ q, k = q + 1 := ⟨k - 1, by omega⟩
    rw [footbridgelaw01_WireReads.l0, if_neg (by omega)]
    rfl
  | succ d ih =>
    intro k i s e hi hk hs
    obtain ⟨k, rfl⟩ : ∃ q, k = q + 2 := ⟨k - 2, by omega⟩
    have hj : ∀ (st : ByteArray) (e' : Int), st.size ≤ s.size → footbridgelaw01_WireReads.j2 (k + 1) kinds (i : Int) st e' st e' = some true := by
      intro st e' hst
      obtain ⟨v, h1, h2⟩ := done_step st e'
      have this := ih k (i + 1) st e' (by omega) (by omega) (by omega)
      have w : wrap64 ((i : Int) + 1) = ((i + 1 : Nat) : Int) := by rw [w64 (by omega) (by omega)]; omega
      rw [footbridgelaw01_WireReads.j2, wire_Reader_Err.f]
      simp only [Option.bind_some, if_true, h1, h2, w, this]
    rw [footbridgelaw01_WireReads.l0, if_pos (by omega), if_pos (by omega)]
    by_cases h0 : (rd kinds (i : Int)).tmod 3 = 0
    · obtain ⟨v, st, e', h1, h2, h3⟩ := num_step s e (k + 1) (by omega) (by omega)
      rw [if_pos h0, h1, h2]
      simp only [Option.bind_some, if_true, hj st e' h3]
    · rw [if_neg h0]
      by_cases h1 : (rd kinds (i : Int)).tmod 3 = 1
      · obtain ⟨v, st, e', h1', h2, h3⟩ := text_step s e (k + 1) (by omega) (by omega)
        rw [if_pos h1, h1', h2]
        simp only [Option.bind_some, if_true, hj st e' h3]
      · obtain ⟨v, st, e', h1', h2, hv, h3⟩ := list_step s e (k + 1) (k + 1) (by omega) (by omega) (by omega)
        rw [if_neg h1, h1', h2]
        simp only [Option.bind_some, texts_f v (k + 1) (by omega) (by omega), if_true, hj st e' h3]
theorem reads_j0 (K : Nat) (hK : 600 ≤ K) (s : ByteArray) (kinds : List Int) (c : Bool) (hc : c = false → s.size ≤ 100000 ∧ kinds.length ≤ 60) : footbridgelaw01_WireReads.j0 (K + 1) s kinds c = some true := by
  rw [footbridgelaw01_WireReads.j0]
  cases c with
  | true => rfl
  | false =>
    obtain ⟨h1, h2⟩ := hc rfl
    rw [if_neg (by decide), wire_New.f]
    exact reads_l0 kinds h2 kinds.length K 0 s 0 (by omega) (by omega) h1
theorem WireReads : footbridgelaw01_WireReads.Pure := by
  intro s kinds _ _ _ _
  obtain ⟨K, hK⟩ : ∃ K : Nat, 600 ≤ K := ⟨600, Nat.le_refl _⟩
  refine ⟨K + 1, ?_⟩
  unfold footbridgelaw01_WireReads.f
  by_cases h : (s.size : Int) > 100000
  · rw [if_pos h]; exact reads_j0 K hK _ _ _ (fun h => by cases h)
  · rw [if_neg h]
    refine reads_j0 K hK _ _ _ (fun h2 => ?_)
    have := of_decide_eq_false h2
    omega
end Go.Proofs.Ytipgldfbjlhpoaa.Pure
