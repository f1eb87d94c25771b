/- DiffBack: the plain side. -/
import Derived.Test.YtipgldfbjlhpoabPureDiffB2
import Derived.Test.YtipgldfbjlhpoabPLDiffBack
namespace Go.Proofs.Ytipgldfbjlhpoab.Pure
set_option linter.unusedVariables false
set_option linter.unusedSimpArgs false
open Go.RowKit Go.Proofs.Ytipgldfbjlhpoab.P Go.Proofs.Ytipgldfbjlhpoab.Wire Go.Proofs.Ytipgldfbjlhpoab.Sha Go.Proofs.YtipgldfbjlhpoabW.PrintWords Go.Proofs.YtipgldfbjlhpoabW.PrintLast
theorem back_l0 (a b : List Pr) (hla : a.length ≤ 1000) (l : List Ch) (hl : l.length ≤ 1000) (hu : Up keyP a) (hf : ∀ c ∈ l, Fit a b c) : ∀ (d k i : Nat), i + d = l.length → d + 2000 ≤ k → footbridgelaw51_DiffBack.l0 k a l (i : Int) = some true := by
  intro d
  induction d with
  | zero =>
    intro k i hi hk
    obtain ⟨k, rfl⟩ : ∃ q, k = q + 1 := ⟨k - 1, by omega⟩
    rw [footbridgelaw51_DiffBack.l0, if_neg (by omega)]
    rfl
  | succ d ih =>
    intro k i hi hk
    obtain ⟨k, rfl⟩ : ∃ q, k = q + 1 := ⟨k - 1, by omega⟩
    have hil : i < l.length := by omega
    have next := ih k (i + 1) (by omega) (by omega)
    have hfit := hf l[i] (List.getElem_mem hil)
    obtain ⟨v, ok, hg, h1, h2⟩ := get_is a l[i].f0 k (by omega) (by omega)
    rw [footbridgelaw51_DiffBack.l0, if_pos (by omega), if_pos (by omega), rdC l i hil, hg, Option.bind_some, w1 i l.length (by omega) (by omega), next]
    dsimp only
    generalize l[i] = c at hfit hg h1 h2 ⊢
    rcases hfit with ⟨g1, g2, x, hx, hxk⟩ | ⟨g1, g2, g3⟩
    · cases ok with
      | false => exact absurd (congrArg ByteArray.toList hxk) (h2 rfl hu x hx)
      | true => rw [g1]; rfl
    · cases ok with
      | false => rw [g1]; rfl
      | true =>
        obtain ⟨x, hx, e1, e2⟩ := h1 rfl
        have hne : ¬ v.toList = c.f1.toList := by rw [← e2]; exact g3 x hx e1
        rw [g1, if_neg hne]
        rfl
theorem DiffBack (a b : List Pr) : ∃ k, footbridgelaw51_DiffBack.f k a b = some true := by
  obtain ⟨k, hk⟩ : ∃ k, 6000 ≤ k := ⟨6000, Nat.le_refl _⟩
  refine ⟨k + 2, ?_⟩
  obtain ⟨ba, hFa, hba⟩ := few51 a (k + 2) (by omega)
  obtain ⟨bb, hFb, hbb⟩ := few51 b (k + 2) (by omega)
  have hA : ∀ x, x = true → footbridgelaw51_DiffBack.j0 (k + 2) a b x = some true := by
    intro x hx
    rw [footbridgelaw51_DiffBack.j0, if_pos hx]
    rfl
  unfold footbridgelaw51_DiffBack.f
  rw [hFa, Option.bind_some]
  cases ba with
  | false =>
    rw [if_neg (by decide)]
    exact hA _ rfl
  | true =>
    rw [if_pos rfl, hFb, Option.bind_some]
    cases bb with
    | false =>
      rw [if_neg (by decide)]
      exact hA _ rfl
    | true =>
      obtain ⟨hla, hza⟩ := hba rfl
      obtain ⟨hlb, hzb⟩ := hbb rfl
      rw [if_pos rfl, rises_eq a (k + 2) (by omega) (by omega), Option.bind_some]
      cases hra : risP a (a.length - 1) with
      | false =>
        rw [if_neg (by decide)]
        exact hA _ rfl
      | true =>
        rw [if_pos rfl, rises_eq b (k + 2) (by omega) (by omega), Option.bind_some]
        cases hrb : risP b (b.length - 1) with
        | false => exact hA _ rfl
        | true =>
          have ua := up_of keyP a ((risP_iff a).mp hra)
          have ub := up_of keyP b ((risP_iff b).mp hrb)
          obtain ⟨f, u, le, m, e⟩ := of_facts (a.length + b.length) a b (Nat.le_refl _) ua ub
          have hclean : ∀ c ∈ ofM a b, c.f2 = true → c.f1 = ⟨#[]⟩ := by
            intro c hc hg
            rcases f c hc with ⟨_, g, _⟩ | ⟨g, _, _⟩
            · exact g
            · rw [g] at hg
              cases hg
          have hfine : fineM (ofM a b) = true := by
            rw [fineM, (risC_iff _).mpr (of_up keyC _ u), cleanC_of _ hclean]
            rfl
          have hz : ∀ c ∈ ofM a b, c.f0.size ≤ 200 ∧ c.f1.size ≤ 500 := by
            intro c hc
            rcases f c hc with ⟨_, g, x, hx, e⟩ | ⟨_, ⟨y, hy, e0, e1⟩, _⟩
            · rw [g, ← e]
              exact ⟨(hza x hx).1, by decide⟩
            · rw [← e0, ← e1]
              exact hzb y hy
          have hOf : diff_Of.f a b = some (ofM a b, 0) := by
            unfold diff_Of.f
            rw [if_pos (by omega), if_pos hra, if_pos hrb]
          have hAp : diff_Apply.f a (ofM a b) = some (b, 0) := by
            unfold diff_Apply.f
            have hfine2 : (risC (ofM a b) ((ofM a b).length - 1) && cleanC (ofM a b) (ofM a b).length) = true := hfine
            rw [if_pos (by omega), if_pos hra, if_pos hfine2, if_pos e, m]
          have hPut := put_is (ofM a b) (by omega) hz
          rw [if_pos hfine, if_neg (by omega)] at hPut
          rw [footbridgelaw51_DiffBack.j0, if_neg (by decide), hOf, Option.bind_some]
          dsimp only
          rw [hPut, Option.bind_some]
          dsimp only
          rw [read_back (ofM a b) (k + 1) (by omega) (by omega) hz hclean hfine, Option.bind_some]
          dsimp only
          rw [hAp, Option.bind_some]
          dsimp only
          rw [if_pos rfl, if_pos rfl, if_pos rfl, if_pos rfl, same09 b (k + 1) (by omega) (by omega), Option.bind_some, footbridgelaw51_DiffBack.j1, if_neg (by decide)]
          exact back_l0 a b (by omega) (ofM a b) (by omega) ua f (ofM a b).length k 0 (by omega) (by omega)
end Go.Proofs.Ytipgldfbjlhpoab.Pure
